/- The contracts of package ticket. -/
import Derived.Test.YteijjhahgabalaaGreatWA24
import Derived.Test.YteijjhahgabalaaGreatWA06
import Derived.Test.YteijjhahgabalaaGreatWA08
import Derived.Test.YteijjhahgabalaaGreatWA20
import Derived.Test.YteijjhahgabalaaGreatWA13
set_option maxRecDepth 100000
set_option maxHeartbeats 8000000
set_option linter.all false
namespace Go.Proofs.YteijjhahgabalaaGreat
open Go.RowKit
open Tryz
structure cV (w:World) (lb ab sb next n:Nat) (S:Nat→Nat→Int):Prop where
 box:am w lb [.slice (some ⟨sb,0,none⟩) n n,some ab,next] 148
 row:am w sb (cq n S) 138
 ne:lb≠sb
 n1:1≤n
 n32:n≤32
 nx:next≤4096
theorem cV.frm {w w':World} {lb ab sb next n:Nat} {S:Nat→Nat→Int} (h:cV w lb ab sb next n S) {Z:List Nat} (hf:ae Z w w') (h1:lb∉Z) (h2:sb∉Z):cV w' lb ab sb next n S:=
 {h with box:=h.box.frm hf h1,row:=h.row.frm hf h2}
theorem cV.put {w:World} {lb ab sb next n:Nat} {S:Nat→Nat→Int} (h:cV w lb ab sb next n S) (i:Nat) {t:Nat} (ht:t<4) (v:Int):
 cV (w.setCell (sb,4*i+t) (.int .i64 v)) lb ab sb next n (ac S i t v):=by
 have hr:=h.row.set (4*i+t) (.int .i64 v);rw[qE n S ht v] at hr;exact{h with box:=h.box.other _ _ h.ne,row:=hr}
theorem cV.put0 {w:World} {lb ab sb next n:Nat} {S:Nat→Nat→Int} (h:cV w lb ab sb next n S) (i:Nat) (v:Int):cV (w.setCell (sb,4*i) (.int .i64 v)) lb ab sb next n (ac S i 0 v):=h.put i (t:=0) aO v
theorem cV.pc {w:World} {lb ab sb next n:Nat} {S:Nat→Nat→Int} (h:cV w lb ab sb next n S) {j:Nat} (hj:j<n) (t:Nat) (ht:t<4):w.cell? (sb,4*j+t)=some (.int .i64 (S j t)):=h.row.cell (dN n S hj ht)
theorem cV.pc0 {w:World} {lb ab sb next n:Nat} {S:Nat→Nat→Int} (h:cV w lb ab sb next n S) {j:Nat} (hj:j<n):w.cell? (sb,4*j)=some (.int .i64 (S j 0)):=h.row.cell (dN n S (t:=0) hj aO)
def ah (n:Nat) (S:Nat→Nat→Int) (i pc:Int):Bool:=aZ n i&&decide (S i.toNat 0=pc)
def a8 (n:Nat) (S:Nat→Nat→Int) (i pc nw:Int):Nat→Nat→Int:=if ah n S i pc then ac S i.toNat 0 nw else S
theorem eT (b:Nat) (w:World):Calls prog 175 #[some b] w fun e w'=>e= .returned (some b)∧w=w':=by
 go_enter func175,ntmps175;go_wp2;go_ret;exact⟨rfl,rfl⟩
section
variable{w:World} {lb ab wb sb next n:Nat} {S:Nat→Nat→Int} {A:AR}
theorem mE (h:cV w lb ab sb next n S):Calls prog 181 #[some lb] w fun e w'=>e= .returned n∧w=w':=by
 have c0:=h.box.cell (i:=0) rfl;clear h;go_enter func181,ntmps181;go_wp2;go_ret;exact⟨rfl,rfl⟩
theorem ns (h:cV w lb ab sb next n S) {i:Int} (hi:aZ n i=false):Calls prog 178 #[some lb,i] w fun e w'=>e= .returned (.pointer none)∧w=w':=by
 have HS:=aH (mE h);clear h;by_cases hneg:i<0
 ·have d1:decide (i<0)=true:=by simpa using hneg
  clear hi;go_enter func178,ntmps178;go_wp2;go_ret;exact⟨rfl,rfl⟩
 ·have d1:decide (i<0)=false:=by simpa using hneg
  have d2:decide ((n:Int)≤i)=true:=by unfold aZ at hi;simp at hi;simp;omega
  clear hi;go_enter func178,ntmps178;go_wp2_with fail;refine HS.o.mono ?_;rintro e w' ⟨rfl,rfl⟩;go_wp2;go_ret;exact⟨rfl,rfl⟩
theorem eP (h:cV w lb ab sb next n S) {i:Nat} (hi:i<n):Calls prog 178 #[some lb,i] w fun e w'=>e= .returned (.pointer (some ⟨sb,4*i,none⟩))∧w=w':=by
 have HS:=aH (mE h);have c0:=h.box.cell (i:=0) rfl;have hn:=h.n32;clear h;have d1:decide ((i:Int)<0)=false:=by simp
 have d2:decide ((n:Int)≤i)=false:=by simp;omega
 have d3:decide (n≤i)=false:=by simp;omega
 have l1:(i:Int)<n:=by omega
 go_enter func178,ntmps178;go_wp2_with fail;refine HS.o.mono ?_;rintro e w' ⟨rfl,rfl⟩;go_wp2;go_ret;exact⟨by simp,rfl⟩
theorem s9 (h:cV w lb ab sb next n S) (i:Int):Calls prog 177 #[some lb,i] w fun e w'=>e= .returned (dq n S i)∧ae [] w w':=by
 cases hi:aZ n i with
 |false=>
  have HS:=aH (fun(W:World) (hf:ae [] w W)=>ns (h.frm hf aS aS) hi);have hr:dq n S i= .agg #[(0:Int),(0:Int),(0:Int),(0:Int)]:=by unfold dq;rw[hi];rfl
  rw[hr];clear h hr hi;go_enter func177,ntmps177;go_wp2_with fail;refine(HS.o _ (aF.alloc _)).mono ?_;rintro e w' ⟨rfl,rfl⟩;go_wp2_with fail;exact bodyPost_ret (v:=.agg #[(0:Int),(0:Int),(0:Int),(0:Int)]) (by simp[results,results177,go_sem]) rfl ⟨rfl,aF.alloc _⟩
 |true=>
  have hi':0≤i∧i<(n:Int):=by unfold aZ at hi;simpa using hi
  obtain⟨j,rfl⟩:=Int.eq_ofNat_of_zero_le hi'.1;have hj:j<n:=by omega
  have HS:=aH (fun(W:World) (hf:ae [] w W)=>eP (h.frm hf aS aS) hj);have hr:dq n S j= .agg #[(S j 0:Int),(S j 1:Int),(S j 2:Int),(S j 3:Int)]:=by unfold dq;rw[hi];rfl
  rw[hr];have hkk:∀wx,ae [] w wx→wx.cell? (sb,4*j)=some (.int .i64 (S j 0))∧wx.cell? (sb,4*j+1)=some (.int .i64 (S j 1))∧wx.cell? (sb,4*j+2)=some (.int .i64 (S j 2))∧wx.cell? (sb,4*j+3)=some (.int .i64 (S j 3)):=fun wx hf=>
   ⟨(h.row.frm hf aS).cell (dN n S (t:=0) hj aO),(h.row.frm hf aS).cell (dN n S (t:=1) hj aO),(h.row.frm hf aS).cell (dN n S (t:=2) hj aO),(h.row.frm hf aS).cell (dN n S (t:=3) hj aO)⟩
  have KK:=aH hkk;clear h hr hi hkk hi';go_enter func177,ntmps177;go_wp2_with fail;refine(HS.o _ (aF.alloc _)).mono ?_;rintro e w' ⟨rfl,rfl⟩;obtain⟨c0,c1,c2,c3⟩:=KK.o _ ((ae.refl [] w).alloc (.cells #[(0:Int),(0:Int),(0:Int),(0:Int)] 138));go_wp2_with fail;refine bodyPost_ret (v:=.agg #[(S j 0:Int),(S j 1:Int),(S j 2:Int),(S j 3:Int)]) (by simp[results,results177,go_sem]) rfl ⟨rfl,?_⟩;exact aF.alloc _
theorem rx (n:Nat) (S:Nat→Nat→Int) (i:Int):∃a b c d:Int,dq n S i= .agg #[a,b,c,d]:=by
 unfold dq
 split
 ·exact⟨_,_,_,_,rfl⟩
 ·exact⟨_,_,_,_,rfl⟩
theorem wV (h:cV w lb ab sb next n S) (i:Int):Calls prog 173 #[some lb,i] w fun e w'=>e= .returned (dq n S i)∧ae [] w w':=by
 have hS:=fun(W:World) (hf:ae [] w W)=>s9 (h.frm hf aS aS) i;obtain⟨a,b,c,d,hv⟩:=rx n S i;rw[hv] at hS⊢;have HS:=aH hS;clear h hS hv;go_enter func173,ntmps173;go_wp2_with fail;refine(eT _ _).mono ?_;rintro e w' ⟨rfl,rfl⟩;go_wp2_with fail;have hz:=World.size_alloc w (.cells #[(0:Int),(0:Int),(0:Int),(0:Int)] 138);have hB:am (w.alloc (.cells #[(0:Int),(0:Int),(0:Int),(0:Int)] 138)) w.heap.size [(0:Int),(0:Int),(0:Int),(0:Int)] 138:=am.new w _ _;refine(HS.o _ (aF.alloc _)).mono ?_;rintro e w1 ⟨rfl,hF⟩;have hB1:=hB.frm hF aS;have hG:ae [] w w1:=((ae.refl [] w).alloc _).trans hF;have b0:=hB1.cell (i:=0) rfl;have b1:=hB1.cell (i:=1) rfl;have b2:=hB1.cell (i:=2) rfl;have b3:=hB1.cell (i:=3) rfl;have bz:=hB1.frozen;have HG:=aH hG;have hlt:=hB1.lt;have hB2:=(((hB1.set 0 (.int .i64 a)).set 1 (.int .i64 b)).set 2 (.int .i64 c)).set 3 (.int .i64 d);have HB2:=aH hB2;clear hF hB hB1 hG hz hB2;have hG4:=(((HG.o.set ⟨w.heap.size,0,none⟩ (.int .i64 a) (.inr (Nat.le_refl _))).set ⟨w.heap.size,1,none⟩ (.int .i64 b) (.inr (Nat.le_refl _))).set ⟨w.heap.size,2,none⟩ (.int .i64 c) (.inr (Nat.le_refl _))).set ⟨w.heap.size,3,none⟩ (.int .i64 d) (.inr (Nat.le_refl _));have HG4:=aH hG4;clear hG4;go_wp2_with fail;generalize(((w1.setCell (w.heap.size,0) (.int .i64 a)).setCell (w.heap.size,1) (.int .i64 b)).setCell (w.heap.size,2) (.int .i64 c)).setCell (w.heap.size,3) (.int .i64 d)=W2 at*;have k0:=HB2.o.cell (i:=0) rfl;have k1:=HB2.o.cell (i:=1) rfl;have k2:=HB2.o.cell (i:=2) rfl;have k3:=HB2.o.cell (i:=3) rfl;exact bodyPost_ret (v:=.agg #[a,b,c,d]) (by simp[results,results173,go_sem,k0,k1,k2,k3]) rfl ⟨rfl,HG4.o⟩
theorem og (S:Nat→Nat→Int) (i:Nat) {t u:Nat} (h:u≠t) {a:Int}:ac S i t a i u=S i u:=by unfold ac;simp[h]
theorem yj (h:cV w lb ab sb next n S) {i pc:Int} (hq:ah n S i pc=false):Calls prog 180 #[some lb,i,pc] w fun e w'=>e= .returned (.pointer none)∧w=w':=by
 cases hi:aZ n i with
 |false=>
  have HS:=aH (ns h hi);clear h hq hi;go_enter func180,ntmps180;go_wp2_with fail;refine HS.o.mono ?_;rintro e w' ⟨rfl,rfl⟩;go_wp2;go_ret;exact⟨rfl,rfl⟩
 |true=>
  have hi':0≤i∧i<(n:Int):=by unfold aZ at hi;simpa using hi
  obtain⟨j,rfl⟩:=Int.eq_ofNat_of_zero_le hi'.1;have hj:j<n:=by omega
  have HS:=aH (eP h hj);have c0:=h.pc0 hj;have e1:(S j 0 !=pc)=true:=by unfold ah at hq;rw[hi] at hq;simpa using hq
  generalize S j 0=q at*;clear h hq hi hi';go_enter func180,ntmps180;go_wp2_with fail;refine HS.o.mono ?_;rintro e w' ⟨rfl,rfl⟩;go_wp2;go_ret;exact⟨rfl,rfl⟩
theorem uH (h:cV w lb ab sb next n S) {j:Nat} (hj:j<n) {pc:Int} (hq:S j 0=pc):Calls prog 180 #[some lb,j,pc] w fun e w'=>e= .returned (.pointer (some ⟨sb,4*j,none⟩))∧w=w':=by
 have HS:=aH (eP h hj);have c0:=h.pc0 hj;rw[hq] at c0;have e1:(pc !=pc)=false:=by simp
 clear h hq;go_enter func180,ntmps180;go_wp2_with fail;refine HS.o.mono ?_;rintro e w' ⟨rfl,rfl⟩;go_wp2;go_ret;exact⟨rfl,rfl⟩
theorem gC (h:cV w lb ab sb next n S) (i pc nw:Int):Calls prog 176 #[some lb,i,pc,nw] w fun e w'=>e= .returned (.bool (ah n S i pc))∧cV w' lb ab sb next n (a8 n S i pc nw)∧ae [sb] w w':=by
 have H:=aH h;cases hq:ah n S i pc with
 |false=>
  have HA:=aH (yj h hq);have hr:a8 n S i pc nw=S:=by unfold a8;rw[hq];rfl
  rw[hr];clear h hq hr;go_enter func176,ntmps176;go_wp2_with fail;refine HA.o.mono ?_;rintro e w' ⟨rfl,rfl⟩;go_wp2;go_ret;exact⟨rfl,H.o,aF⟩
 |true=>
  have hq':aZ n i=true∧S i.toNat 0=pc:=by unfold ah at hq;simpa using hq
  have hi':0≤i∧i<(n:Int):=by have:=hq'.1;unfold aZ at this;simpa using this
  obtain⟨j,rfl⟩:=Int.eq_ofNat_of_zero_le hi'.1;have hj:j<n:=by omega
  have ej:((j:Int)).toNat=j:=by omega
  have hpc:S j 0=pc:=by have:=hq'.2;rwa [ej] at this
  have HA:=aH (uH h hj hpc);have hr:a8 n S j pc nw=ac S j 0 nw:=by unfold a8;rw[hq,if_pos rfl,ej]
  rw[hr];have c0:=h.pc0 hj;have hfz:=h.row.frozen;have HP:=aH (h.put0 j nw);clear h hq hr hq' hi' hpc ej;generalize S j 0=q at*;go_enter func176,ntmps176;go_wp2_with fail;refine HA.o.mono ?_;rintro e w' ⟨rfl,rfl⟩;go_wp2;go_ret;exact⟨rfl,HP.o,(ae.refl [sb] w).set ⟨sb,4*j,none⟩ _ (.inl aS)⟩
theorem yE (h:cV w lb ab sb next n S) (i:Int):Calls prog 170 #[some lb,i] w fun e w'=>e= .returned (.bool (ah n S i 0))∧cV w' lb ab sb next n (a8 n S i 0 1)∧ae [sb] w w':=by
 have HT:=aH (gC h i 0 1);clear h;go_enter func170,ntmps170;go_wp2_with fail;refine(eT _ _).mono ?_;rintro e w' ⟨rfl,rfl⟩;go_wp2_with fail;refine HT.o.mono ?_;rintro e w' ⟨rfl,hK,hF⟩;have HK:=aH hK;have HF:=aH hF;clear hK hF;go_wp2;go_ret;exact⟨rfl,HK.o,HF.o⟩
theorem tW (h:cV w lb ab sb next n S) (i:Int):Calls prog 171 #[some lb,i] w fun e w'=>e= .returned (.bool (ah n S i 10))∧cV w' lb ab sb next n (a8 n S i 10 11)∧ae [sb] w w':=by
 have HT:=aH (gC h i 10 11);clear h;go_enter func171,ntmps171;go_wp2_with fail;refine(eT _ _).mono ?_;rintro e w' ⟨rfl,rfl⟩;go_wp2_with fail;refine HT.o.mono ?_;rintro e w' ⟨rfl,hK,hF⟩;have HK:=aH hK;have HF:=aH hF;clear hK hF;go_wp2;go_ret;exact⟨rfl,HK.o,HF.o⟩
def vC (n next:Nat) (S:Nat→Nat→Int) (A:AR) (i:Int):Bool:=ah n S i 10&&decide (A.get next=wrap64 (S i.toNat 1+1))
def u1 (n next:Nat) (S:Nat→Nat→Int) (A:AR) (i:Int):AR:=if ah n S i 10 then A.load next else A
theorem ve (h:cV w lb ab sb next n S) (i:Int) (hq:ah n S i 10=false):Calls prog 169 #[some lb,i] w fun e w'=>e= .returned false∧ae [] w w':=by
 have HA:=aH (yj h hq);have hne:=aW [] w;clear h hq;go_enter func169,ntmps169;go_wp2_with fail;refine(eT _ _).mono ?_;rintro e w' ⟨rfl,rfl⟩;go_wp2_with fail;refine HA.o.mono ?_;rintro e w' ⟨rfl,rfl⟩;go_wp2_with fail;refine aG (fun wx=>ae [] w wx) ?_;refine aR (fuel:=4) [0,1,2,3,4,5,6,7,8,9,10,12,13,14,15,16] rfl aF.drew1 ?_;intro K hK;repeat (go_big_quiet_step (fail))
 refine wpQuiet_nil (hK _ ?_);clear hK K;refine aL 11 (fuel:=3) rfl ?_;go_wp2_with fail;refine af ⟨aF.drew1,?_⟩;refine aR (fuel:=0) [17,18,19] rfl aF.drew1 ?_;intro K hK;repeat (go_big_quiet_step (fail))
 refine wpQuiet_nil (hK _ ?_);clear hK K;refine aN ?_;go_wp2;go_ret;exact⟨rfl,aF.drew1⟩
theorem sL (h:cV w lb ab sb next n S) (hA:aj w ab wb A) (hne:lb≠ab∧lb≠wb∧sb≠ab∧sb≠wb) {j:Nat} (hj:j<n) (hq:S j 0=10):Calls prog 169 #[some lb,j] w fun e w'=>e= .returned (.bool (A.get next==wrap64 (S j 1+1)))∧cV w' lb ab sb next n S∧aj w' ab wb (A.load next)∧ae [ab,wb] w w':=by
 obtain⟨n1,n2,n3,n4⟩:=hne;have HAT:=aH (uH h hj hq);have hnx:=h.nx;have hne:=aW [ab,wb] w;have hz0:∀q:HW (fun wx=>ae [ab,wb] w wx),q.w.cell? (lb,1)=some (.pointer (some ⟨ab,0,none⟩)):=fun q=>(h.box.frm q.h aQ).cell (i:=1) rfl;have hz1:∀q:HW (fun wx=>ae [ab,wb] w wx),q.w.cell? (lb,2)=some (.int .i64 next):=fun q=>(h.box.frm q.h aQ).cell (i:=2) rfl;have hz2:∀q:HW (fun wx=>ae [ab,wb] w wx),q.w.cell? (sb,4*j+1)=some (.int .i64 (S j 1)):=fun q=>(h.frm q.h aQ aQ).pc hj 1 aO;have HL:=aH (bq (hA.frm (S:=[]) ((ae.refl _ w).drew1) aS aS) next);have HK:=aH h;have HN:=aH (And.intro n1 (And.intro n2 (And.intro n3 n4)));clear h hA hq n1 n2 n3 n4;generalize S j 1=a at*;generalize A.get next=x at*;go_enter func169,ntmps169;go_wp2_with fail;refine(eT _ _).mono ?_;rintro e w' ⟨rfl,rfl⟩;go_wp2_with fail;refine HAT.o.mono ?_;rintro e w' ⟨rfl,rfl⟩;go_wp2_with fail;refine aG (fun wx=>ae [ab,wb] w wx) ?_;refine aR (fuel:=4) [0,1,2,3,4,5,6,7,8,9,10,12,13,14,15,16] rfl aF.drew1 ?_;intro K hK;repeat (go_big_quiet_step (fail))
 refine wpQuiet_nil (hK _ ?_);clear hK K;refine aL 11 (fuel:=3) rfl ?_;go_wp2_with fail;refine HL.o.mono ?_;rintro e w1 ⟨rfl,hA,hF⟩;have HA1:=aH hA;have HF1:=aH (((ae.refl [ab,wb] w).drew1).trans hF);clear hA hF;go_wp2_with fail;refine af ⟨HF1.o,?_⟩;refine aR (fuel:=0) [17,18,19] rfl HF1.o ?_;intro K hK;repeat (go_big_quiet_step (fail))
 refine wpQuiet_nil (hK _ ?_);clear hK K;refine aN ?_;go_wp2;go_ret;exact⟨rfl,HK.o.frm HF1.o aV aV,HA1.o,HF1.o⟩
theorem ud (h:cV w lb ab sb next n S) (hA:aj w ab wb A) (hne:lb≠ab∧lb≠wb∧sb≠ab∧sb≠wb) (i:Int):Calls prog 169 #[some lb,i] w fun e w'=>e= .returned (.bool (vC n next S A i))∧cV w' lb ab sb next n S∧aj w' ab wb (u1 n next S A i)∧ae [sb,ab,wb] w w':=by
 unfold vC u1;cases hq:ah n S i 10 with
 |false=>exact(ve h i hq).mono fun e w' ⟨h1,h2⟩=>⟨h1,h.frm h2 aS aS,hA.frm h2 aS aS,h2.mono aS⟩
 |true=>
  have hq':aZ n i=true∧S i.toNat 0=10:=by unfold ah at hq;simpa using hq
  have hi':0≤i∧i<(n:Int):=by have:=hq'.1;unfold aZ at this;simpa using this
  obtain⟨j,rfl⟩:=Int.eq_ofNat_of_zero_le hi'.1;have ej:((j:Int)).toNat=j:=by omega
  refine(sL h hA hne (by omega:j<n) (by have:=hq'.2;rwa [ej] at this)).mono fun e w' ⟨h1,h2,h3,h4⟩=>⟨?_,h2,h3,h4.mono aS⟩
  rw[h1,ej];exact bH (by simp[BEq.beq])
def mq (n next:Nat) (S:Nat→Nat→Int) (A:AR) (i:Int):Bool:=aZ n i&&(if S i.toNat 0=2 then decide (A.get (next+1)=S i.toNat 1) else decide (S i.toNat 0=11))
def j5 (n next:Nat) (S:Nat→Nat→Int) (A:AR) (i:Int):Nat→Nat→Int:=
 if aZ n i then
  (if S i.toNat 0=1 then ac (ac S i.toNat 1 (wrap64 (A.addRes next 1 - 1))) i.toNat 0 2
   else if S i.toNat 0=2 then(if A.get (next+1)=S i.toNat 1 then ac S i.toNat 0 10 else S)
   else if S i.toNat 0=11 then ac S i.toNat 0 0 else S)
 else S
def iQ (n next:Nat) (S:Nat→Nat→Int) (A:AR) (i:Int):AR:=
 if aZ n i then(if S i.toNat 0=1 then A.add next 1 else if S i.toNat 0=2 then A.load (next+1) else if S i.toNat 0=11 then A.store (next+1) (wrap64 (S i.toNat 1+1)) else A) else A
theorem nW (h:cV w lb ab sb next n S) (i:Int) (hq:aZ n i=false∨(S i.toNat 0≠1∧S i.toNat 0≠2∧S i.toNat 0≠11)):Calls prog 174 #[some lb,i] w fun e w'=>e= .returned false∧w=w':=by
 cases hi:aZ n i with
 |false=>
  have HS:=aH (ns h hi);clear h hq hi;go_enter func174,ntmps174;go_wp2_with fail;refine(eT _ _).mono ?_;rintro e w' ⟨rfl,rfl⟩;go_wp2_with fail;refine HS.o.mono ?_;rintro e w' ⟨rfl,rfl⟩;go_wp2;go_ret;exact⟨rfl,rfl⟩
 |true=>
  have hi':0≤i∧i<(n:Int):=by unfold aZ at hi;simpa using hi
  obtain⟨j,rfl⟩:=Int.eq_ofNat_of_zero_le hi'.1;have hj:j<n:=by omega
  have HS:=aH (eP h hj);have c0:=h.pc0 hj;rw[hi] at hq;rw[show((j:Int).toNat)=j from by omega] at hq;obtain⟨q1,q2,q3⟩:=hq.resolve_left aS;generalize S j 0=pc at*;have d1:(pc==1)=false:=by simpa using q1
  have d2:(pc==2)=false:=by simpa using q2
  have d3:(pc==11)=false:=by simpa using q3
  clear h hq hi q1 q2 q3 hi';go_enter func174,ntmps174;go_wp2_with fail;refine(eT _ _).mono ?_;rintro e w' ⟨rfl,rfl⟩;go_wp2_with fail;refine HS.o.mono ?_;rintro e w' ⟨rfl,rfl⟩;go_wp2;go_ret;exact⟨rfl,rfl⟩
theorem wg (h:cV w lb ab sb next n S) (hA:aj w ab wb A) (hne:lb≠ab∧lb≠wb∧sb≠ab∧sb≠wb) {j:Nat} (hj:j<n) (hq:S j 0=1):Calls prog 174 #[some lb,j] w fun e w'=>e= .returned false∧
 cV w' lb ab sb next n (ac (ac S j 1 (wrap64 (A.addRes next 1 - 1))) j 0 2)∧aj w' ab wb (A.add next 1)∧ae [sb,ab,wb] w w':=by
 obtain⟨n1,n2,n3,n4⟩:=hne;have HS:=aH (eP h hj);have hnx:=h.nx;have HN:=aH (And.intro n1 (And.intro n2 (And.intro n3 n4)));have c0:=h.pc0 hj;rw[hq] at c0;have hne:=aW [sb,ab,wb] w;have hz0:∀q:HW (fun wx=>ae [sb,ab,wb] w wx),q.w.cell? (lb,1)=some (.pointer (some ⟨ab,0,none⟩)):=fun q=>(h.box.frm q.h (by simp;have:=h.ne;omega)).cell (i:=1) rfl;have hz1:∀q:HW (fun wx=>ae [sb,ab,wb] w wx),q.w.cell? (lb,2)=some (.int .i64 next):=fun q=>(h.box.frm q.h (by simp;have:=h.ne;omega)).cell (i:=2) rfl;have HAD:=aH (iB (hA.frm (S:=[]) ((ae.refl _ w).drew1) aS aS) next 1);have HK:=aH h;have HQ:=aH hq;clear h hA hq n1 n2 n3 n4;generalize A.addRes next 1=x at*;go_enter func174,ntmps174;go_wp2_with fail;refine(eT _ _).mono ?_;rintro e w' ⟨rfl,rfl⟩;go_wp2_with fail;refine HS.o.mono ?_;rintro e w' ⟨rfl,rfl⟩;go_wp2_with fail;refine aG (fun wx=>ae [sb,ab,wb] w wx) ?_;refine aR (fuel:=5) [0,1,2,3,4,5,6,7,8] rfl aF.drew1 ?_;intro K hK;repeat (go_big_quiet_step (fail))
 refine wpQuiet_nil (hK _ ?_);clear hK K;refine aL 9 (fuel:=4) rfl ?_;go_wp2_with fail;refine HAD.o.mono ?_;rintro e w1 ⟨rfl,hA,hF⟩;have HA1:=aH hA;have HF1:=aH (((ae.refl [ab,wb] w).drew1).trans hF);have hK1:=HK.o.frm HF1.o aV aV;have k1:=hK1.pc hj 1 aO;have kz:=hK1.row.frozen;have HK1:=aH hK1;clear hA hF hK1;go_wp2_with fail;refine af ⟨HF1.o.mono aS,?_⟩;refine aR (fuel:=1) [10,11,12] rfl (HF1.o.mono aS) ?_;intro K hK;repeat (go_big_quiet_step (fail))
 refine wpQuiet_nil (hK _ ?_);clear hK K;refine aL 13 (fuel:=0) rfl ?_;go_wp2_with fail;refine af ⟨(HF1.o.mono (S':=[sb,ab,wb]) aS).set _ _ (.inl aS),?_⟩;refine aN ?_;have hK2:=HK1.o.put j (t:=1) aO (wrap64 (x - 1));have HF2:=aH ((HF1.o.mono (S':=[sb,ab,wb]) aS).set ⟨sb,4*j+1,none⟩ (.int .i64 (wrap64 (x - 1))) (.inl aS));have HA2:=aH (HA1.o.frm ((ae.refl [sb] w1).set ⟨sb,4*j+1,none⟩ (.int .i64 (wrap64 (x - 1))) (.inl aS)) aV aV);clear k1 kz HK1 hz0 hz1 hne;generalize w1.setCell (sb,4*j+1) (.int .i64 (wrap64 (x - 1)))=W2 at*;have hpc:ac S j 1 (wrap64 (x - 1)) j 0=1:=by unfold ac;simp[HQ.o]
 have hok:ah n (ac S j 1 (wrap64 (x - 1))) j 1=true:=by unfold ah aZ;rw[show((j:Int)).toNat=j from by omega,hpc];simp;omega
 have hT:=gC hK2 j 1 2;unfold a8 at hT;rw[hok,if_pos rfl,show((j:Int)).toNat=j from by omega] at hT;have HT:=aH hT;clear hT hok hpc hK2;go_wp2_with fail;refine HT.o.mono ?_;rintro e w3 ⟨rfl,hK,hF⟩;have HK3:=aH hK;have HA3:=aH (HA2.o.frm hF aV aV);have HF3:=aH (HF2.o.trans (hF.mono aS));clear hK hF;go_wp2;go_ret;exact⟨rfl,HK3.o,HA3.o,HF3.o⟩
theorem qa:(∀{w:World} {lb ab wb sb next n:Nat} {S:Nat→Nat→Int} {A:AR} (h:cV w lb ab sb next n S) (hA:aj w ab wb A) (hne:lb≠ab∧lb≠wb∧sb≠ab∧sb≠wb) {j:Nat} (hj:j<n) (hq:S j 0=2) (hg:A.get (next+1)=S j 1),Calls prog 174 #[some lb,j] w fun e w'=>e= .returned true∧cV w' lb ab sb next n (ac S j 0 10)∧aj w' ab wb (A.load (next+1))∧ae [sb,ab,wb] w w')∧(∀{w:World} {lb ab wb sb next n:Nat} {S:Nat→Nat→Int} {A:AR} (h:cV w lb ab sb next n S) (hA:aj w ab wb A) (hne:lb≠ab∧lb≠wb∧sb≠ab∧sb≠wb) {j:Nat} (hj:j<n) (hq:S j 0=2) (hg:¬A.get (next+1)=S j 1),Calls prog 174 #[some lb,j] w fun e w'=>e= .returned false∧cV w' lb ab sb next n S∧aj w' ab wb (A.load (next+1))∧ae [sb,ab,wb] w w'):=by
 refine⟨?_,?_⟩;all_goals
  intro w lb ab wb sb next n S A h hA hne j hj hq hg
 all_goals
  obtain⟨n1,n2,n3,n4⟩:=hne;have HS:=aH (eP h hj);have hnx:=h.nx;have HN:=aH (And.intro n1 (And.intro n2 (And.intro n3 n4)));have c0:=h.pc0 hj;rw[hq] at c0
 have e1:(A.get (next+1)==S j 1)=true:=by simpa using hg
 rotate_left;have e1:(A.get (next+1)==S j 1)=false:=by simpa using hg
 rotate_left;all_goals
  have z1:=h.pc hj 1 aO
 have hga:A.get (next+1)=S j 1:=hg;rotate_left;rotate_left;all_goals
  have HL:=aH (bq (hA.frm (S:=[]) ((ae.refl _ w).drew1) aS aS) (next+1));have HK:=aH h;have HQ:=aH hq;have b1:=h.box;have HB:=aH b1;have hlne:=h.ne;clear h hA hq hg b1;generalize haa:S j 1=a at*;have HAA:=aH haa;generalize A.get (next+1)=x at*;clear haa
 have HGA:=aH hga;clear hga;have hne:Nonempty (HW (fun wx=>ae [sb,ab,wb] w wx∧wx.cell? (sb,4*j+1)=some (.int .i64 a))):=⟨⟨w,aF,z1⟩⟩
 have hz0:∀q:HW (fun wx=>ae [sb,ab,wb] w wx∧wx.cell? (sb,4*j+1)=some (.int .i64 a)),q.w.cell? (lb,1)=some (.pointer (some ⟨ab,0,none⟩)):=fun q=>(HB.o.frm q.h.1 aQ).cell (i:=1) rfl;have hz1:∀q:HW (fun wx=>ae [sb,ab,wb] w wx∧wx.cell? (sb,4*j+1)=some (.int .i64 a)),q.w.cell? (lb,2)=some (.int .i64 next):=fun q=>(HB.o.frm q.h.1 aQ).cell (i:=2) rfl;have hz2:∀q:HW (fun wx=>ae [sb,ab,wb] w wx∧wx.cell? (sb,4*j+1)=some (.int .i64 a)),q.w.cell? (sb,4*j+1)=some (.int .i64 a):=fun q=>q.h.2;rotate_left;have hne:=aW [ab,wb] w;have hz0:∀q:HW (fun wx=>ae [ab,wb] w wx),q.w.cell? (lb,1)=some (.pointer (some ⟨ab,0,none⟩)):=fun q=>(HB.o.frm q.h aQ).cell (i:=1) rfl;have hz1:∀q:HW (fun wx=>ae [ab,wb] w wx),q.w.cell? (lb,2)=some (.int .i64 next):=fun q=>(HB.o.frm q.h aQ).cell (i:=2) rfl;have hz2:∀q:HW (fun wx=>ae [ab,wb] w wx),q.w.cell? (sb,4*j+1)=some (.int .i64 a):=fun q=>by have:=(HK.o.frm q.h aQ aQ).pc hj 1 aO;rwa [HAA.o] at this
 rotate_left;all_goals
  have Z1:=aH z1;clear z1 n1 n2 n3 n4 hlne;go_enter func174,ntmps174;go_wp2_with fail;refine(eT _ _).mono ?_;rintro e w' ⟨rfl,rfl⟩;go_wp2_with fail;refine HS.o.mono ?_;rintro e w' ⟨rfl,rfl⟩;go_wp2_with fail
 refine aG (fun wx=>ae [sb,ab,wb] w wx∧wx.cell? (sb,4*j+1)=some (.int .i64 a)) ?_;refine aR (fuel:=10) [0,1,2,3,4,5,6,7,8,10,11,12,13] rfl ⟨aF.drew1,Z1.o⟩ ?_;rotate_left;refine aG (fun wx=>ae [ab,wb] w wx) ?_;refine aR (fuel:=10) [0,1,2,3,4,5,6,7,8,10,11,12,13] rfl aF.drew1 ?_;rotate_left;all_goals
  intro K hK;repeat (go_big_quiet_step (fail))
  refine wpQuiet_nil (hK _ ?_);clear hK K;refine aL 9 (fuel:=9) rfl ?_;go_wp2_with fail;refine HL.o.mono ?_;rintro e w1 ⟨rfl,hA,hF⟩;have HA1:=aH hA;have HF1:=aH (((ae.refl [ab,wb] w).drew1).trans hF);have HK1:=aH (HK.o.frm HF1.o aV aV);clear hA hF;go_wp2_with fail
 refine af ⟨⟨HF1.o.mono aS,by have:=HK1.o.pc hj 1 aO;rwa [HAA.o] at this⟩,?_⟩;refine aR (fuel:=3) [14,15,16,17,18,19] rfl ⟨HF1.o.mono aS,by have:=HK1.o.pc hj 1 aO;rwa [HAA.o] at this⟩ ?_;rotate_left;refine af ⟨HF1.o,?_⟩;refine aR (fuel:=3) [14,15,16,17,18,19] rfl HF1.o ?_;rotate_left;all_goals
  intro K hK;repeat (go_big_quiet_step (fail))
  refine wpQuiet_nil (hK _ ?_);clear hK K;refine aL 20 (fuel:=2) rfl ?_;go_wp2_with fail
 focus
  have hok:ah n S j 2=true:=by(unfold ah aZ;rw[show((j:Int)).toNat=j from by omega,HQ.o];simp;omega)
  have hT:=gC HK1.o j 2 10;unfold a8 at hT;rw[hok,if_pos rfl,show((j:Int)).toNat=j from by omega] at hT;refine hT.mono ?_;rintro e w3 ⟨rfl,hK,hF⟩;have HK3:=aH hK;have HA3:=aH (HA1.o.frm hF aV aV);have HF3:=aH ((HF1.o.mono (S':=[sb,ab,wb]) aS).trans (hF.mono aS));clear hK hF hT hok;go_wp2_with fail;refine af ⟨⟨HF3.o,by have:=HK3.o.pc hj 1 aO;rwa [og S j aO,HAA.o] at this⟩,?_⟩;refine aR (fuel:=0) [21,22] rfl ⟨HF3.o,by have:=HK3.o.pc hj 1 aO;rwa [og S j aO,HAA.o] at this⟩ ?_
 rotate_left;refine af ⟨HF1.o,?_⟩;refine aR (fuel:=0) [21,22] rfl HF1.o ?_;rotate_left;all_goals
  intro K hK;repeat (go_big_quiet_step (fail))
  refine wpQuiet_nil (hK _ ?_);clear hK K;refine aN ?_;go_wp2;go_ret
 ·exact⟨rfl,HK3.o,HA3.o,HF3.o⟩
 ·exact⟨rfl,HK1.o,HA1.o,HF1.o.mono aS⟩
def vB:= @And.left _ _ qa
def tJ:= @And.right _ _ qa
theorem tU (h:cV w lb ab sb next n S) (hA:aj w ab wb A) (hne:lb≠ab∧lb≠wb∧sb≠ab∧sb≠wb) {j:Nat} (hj:j<n) (hq:S j 0=11):Calls prog 174 #[some lb,j] w fun e w'=>e= .returned true∧
 cV w' lb ab sb next n (ac S j 0 0)∧aj w' ab wb (A.store (next+1) (wrap64 (S j 1+1)))∧ae [sb,ab,wb] w w':=by
 obtain⟨n1,n2,n3,n4⟩:=hne;have HS:=aH (eP h hj);have hnx:=h.nx;have HN:=aH (And.intro n1 (And.intro n2 (And.intro n3 n4)));have c0:=h.pc0 hj;rw[hq] at c0;have hne:=aW [ab,wb] w;have hz0:∀q:HW (fun wx=>ae [ab,wb] w wx),q.w.cell? (lb,1)=some (.pointer (some ⟨ab,0,none⟩)):=fun q=>(h.box.frm q.h aQ).cell (i:=1) rfl;have hz1:∀q:HW (fun wx=>ae [ab,wb] w wx),q.w.cell? (lb,2)=some (.int .i64 next):=fun q=>(h.box.frm q.h aQ).cell (i:=2) rfl;have hz2:∀q:HW (fun wx=>ae [ab,wb] w wx),q.w.cell? (sb,4*j+1)=some (.int .i64 (S j 1)):=fun q=>(h.frm q.h aQ aQ).pc hj 1 aO;have HL:=aH (au (hA.frm (S:=[]) ((ae.refl _ w).drew1) aS aS) (next+1) (wrap64 (S j 1+1)));have HK:=aH h;have HQ:=aH hq;clear h hA hq n1 n2 n3 n4;generalize S j 1=a at*;go_enter func174,ntmps174;go_wp2_with fail;refine(eT _ _).mono ?_;rintro e w' ⟨rfl,rfl⟩;go_wp2_with fail;refine HS.o.mono ?_;rintro e w' ⟨rfl,rfl⟩;go_wp2_with fail;refine aG (fun wx=>ae [ab,wb] w wx) ?_;refine aR (fuel:=1) [0,1,2,3,4,5,6,7,8,9,10,11,12,13] rfl aF.drew1 ?_;intro K hK;repeat (go_big_quiet_step (fail))
 refine wpQuiet_nil (hK _ ?_);clear hK K;refine aL 14 (fuel:=0) rfl ?_;go_wp2_with fail;refine HL.o.mono ?_;rintro e w1 ⟨rfl,hA,hF⟩;have HA1:=aH hA;have HF1:=aH (((ae.refl [ab,wb] w).drew1).trans hF);have HK1:=aH (HK.o.frm HF1.o aV aV);clear hA hF;go_wp2_with fail;refine af ⟨HF1.o,?_⟩;refine aN ?_;have hok:ah n S j 11=true:=by unfold ah aZ;rw[show((j:Int)).toNat=j from by omega,HQ.o];simp;omega
 have hT:=gC HK1.o j 11 0;unfold a8 at hT;rw[hok,if_pos rfl,show((j:Int)).toNat=j from by omega] at hT;have HT:=aH hT;clear hT hok hz0 hz1 hz2 hne;go_wp2_with fail;refine HT.o.mono ?_;rintro e w3 ⟨rfl,hK,hF⟩;have HK3:=aH hK;have HA3:=aH (HA1.o.frm hF aV aV);have HF3:=aH ((HF1.o.mono (S':=[sb,ab,wb]) aS).trans (hF.mono aS));clear hK hF;go_wp2;go_ret;exact⟨rfl,HK3.o,HA3.o,HF3.o⟩
theorem u7 (h:cV w lb ab sb next n S) (hA:aj w ab wb A) (hne:lb≠ab∧lb≠wb∧sb≠ab∧sb≠wb) (i:Int):Calls prog 174 #[some lb,i] w fun e w'=>e= .returned (.bool (mq n next S A i))∧
 cV w' lb ab sb next n (j5 n next S A i)∧aj w' ab wb (iQ n next S A i)∧ae [sb,ab,wb] w w':=by
 have hne':=hne;obtain⟨n1,n2,n3,n4⟩:=hne;cases hi:aZ n i with
 |false=>
  refine(nW h i (.inl hi)).mono fun e w' ⟨g1,g2⟩=>?_;subst g1 g2;exact⟨by unfold mq;rw[hi];rfl,by unfold j5;rw[hi];exact h,by unfold iQ;rw[hi];exact hA,aF⟩
 |true=>
  have hi':0≤i∧i<(n:Int):=by unfold aZ at hi;simpa using hi
  obtain⟨j,rfl⟩:=Int.eq_ofNat_of_zero_le hi'.1;have hj:j<n:=by omega
  have ej:((j:Int)).toNat=j:=by omega
  unfold mq j5 iQ;rw[hi,ej];simp only[Bool.true_and,if_true];by_cases q1:S j 0=1
  ·have q2:¬S j 0=2:=by omega
   have q3:¬S j 0=11:=by omega
   simp only[if_pos q1,if_neg q2,decide_eq_false q3];exact wg h hA hne' hj q1
  ·simp only[if_neg q1];by_cases q2:S j 0=2
   ·simp only[if_pos q2];by_cases hg:A.get (next+1)=S j 1
    ·simp only[if_pos hg,decide_eq_true hg];exact vB h hA hne' hj q2 hg
    ·simp only[if_neg hg,decide_eq_false hg];exact tJ h hA hne' hj q2 hg
   ·simp only[if_neg q2];by_cases q3:S j 0=11
    ·simp only[if_pos q3,decide_eq_true q3];exact tU h hA hne' hj q3
    ·simp only[if_neg q3,decide_eq_false q3];refine(nW h j (.inr ?_)).mono fun e w' ⟨g1,g2⟩=>?_
     ·rw[ej];exact⟨q1,q2,q3⟩
     ·subst g1 g2;exact⟨rfl,h,hA,aF⟩
end
section
variable{w w':World} {lb sb ab wb tail n:Nat} {A A':AR} {S:Nat→Nat→Int}
theorem om (h:bD w lb sb ab wb tail n A S):Calls prog 197 #[some lb] w fun e w'=>e= .returned n∧w=w':=by
 have c2:=h.box.cell (i:=2) rfl;clear h;go_enter func197,ntmps197;go_wp2;go_ret;exact⟨rfl,rfl⟩
theorem rF (h:bD w lb sb ab wb tail n A S) {i:Int} (hi:aZ n i=false):Calls prog 201 #[some lb,i] w fun e w'=>e= .returned (.pointer none)∧w=w':=by
 have HS:=aH (om h);clear h;by_cases hneg:i<0
 ·have d1:decide (i<0)=true:=by simpa using hneg
  clear hi;go_enter func201,ntmps201;go_wp2;go_ret;exact⟨rfl,rfl⟩
 ·have d1:decide (i<0)=false:=by simpa using hneg
  have d2:decide ((n:Int)≤i)=true:=by unfold aZ at hi;simp at hi;simp;omega
  clear hi;go_enter func201,ntmps201;go_wp2_with fail;refine HS.o.mono ?_;rintro e w' ⟨rfl,rfl⟩;go_wp2;go_ret;exact⟨rfl,rfl⟩
theorem i4 (h:bD w lb sb ab wb tail n A S) {i:Nat} (hi:i<n):Calls prog 201 #[some lb,i] w fun e w'=>e= .returned (.pointer (some ⟨sb,i*4,none⟩))∧w=w':=by
 have HS:=aH (om h);have c2:=h.box.cell (i:=2) rfl;have hn:=h.n32;clear h;have d1:decide ((i:Int)<0)=false:=by simp
 have d2:decide ((n:Int)≤i)=false:=by simp;omega
 have d3:decide (n≤i)=false:=by simp;omega
 have l1:(i:Int)<n:=by omega
 go_enter func201,ntmps201;go_wp2_with fail;refine HS.o.mono ?_;rintro e w' ⟨rfl,rfl⟩;go_wp2;go_ret;exact⟨rfl,rfl⟩
theorem gN (h:bD w lb sb ab wb tail n A S) (i:Int):Calls prog 198 #[some lb,i] w fun e w'=>e= .returned (dq n S i)∧ae [] w w':=by
 cases hi:aZ n i with
 |false=>
  have HS:=aH (fun(W:World) (hf:ae [] w W)=>rF (h.frm hf aS) hi);have hr:dq n S i= .agg #[(0:Int),(0:Int),(0:Int),(0:Int)]:=by unfold dq;rw[hi];rfl
  rw[hr];clear h hr hi;go_enter func198,ntmps198;go_wp2_with fail;refine(HS.o _ (aF.alloc _)).mono ?_;rintro e w' ⟨rfl,rfl⟩;go_wp2_with fail;exact bodyPost_ret (v:=.agg #[(0:Int),(0:Int),(0:Int),(0:Int)]) (by simp[results,results198,go_sem]) rfl ⟨rfl,aF.alloc _⟩
 |true=>
  have hi':0≤i∧i<(n:Int):=by unfold aZ at hi;simpa using hi
  obtain⟨j,rfl⟩:=Int.eq_ofNat_of_zero_le hi'.1;have hj:j<n:=by omega
  have HS:=aH (fun(W:World) (hf:ae [] w W)=>i4 (h.frm hf aS) hj);have hr:dq n S j= .agg #[(S j 0:Int),(S j 1:Int),(S j 2:Int),(S j 3:Int)]:=by unfold dq;rw[hi];rfl
  rw[hr];have hkk:∀wx,ae [] w wx→wx.cell? (sb,j*4)=some (.int .i64 (S j 0))∧wx.cell? (sb,j*4+1)=some (.int .i64 (S j 1))∧wx.cell? (sb,j*4+2)=some (.int .i64 (S j 2))∧wx.cell? (sb,j*4+3)=some (.int .i64 (S j 3)):=fun wx hf=>
   ⟨(h.frm hf aS).p0 hj,(h.frm hf aS).p hj aO,(h.frm hf aS).p hj aO,(h.frm hf aS).p hj aO⟩
  have KK:=aH hkk;clear h hr hi hkk hi';go_enter func198,ntmps198;go_wp2_with fail;refine(HS.o _ (aF.alloc _)).mono ?_;rintro e w' ⟨rfl,rfl⟩;obtain⟨c0,c1,c2,c3⟩:=KK.o _ ((ae.refl [] w).alloc (.cells #[(0:Int),(0:Int),(0:Int),(0:Int)] 138));go_wp2_with fail;refine bodyPost_ret (v:=.agg #[(S j 0:Int),(S j 1:Int),(S j 2:Int),(S j 3:Int)]) (by simp[results,results198,go_sem]) rfl ⟨rfl,?_⟩;exact aF.alloc _
theorem p7 (h:bD w lb sb ab wb tail n A S) (i pc nw:Int):Calls prog 200 #[some lb,i,pc,nw] w fun e w'=>e= .returned (.bool (ah n S i pc))∧bD w' lb sb ab wb tail n A (a8 n S i pc nw)∧ae [sb] w w':=by
 have H:=aH h;cases hi:aZ n i with
 |false=>
  have hq:ah n S i pc=false:=by unfold ah;rw[hi];rfl
  have hr:a8 n S i pc nw=S:=by unfold a8;rw[hq];rfl
  have HS:=aH (rF h hi);rw[hr,hq];clear h hq hr hi;go_enter func200,ntmps200;go_wp2_with fail;refine HS.o.mono ?_;rintro e w' ⟨rfl,rfl⟩;go_wp2;go_ret;exact⟨rfl,H.o,aF⟩
 |true=>
  have hi':0≤i∧i<(n:Int):=by unfold aZ at hi;simpa using hi
  obtain⟨j,rfl⟩:=Int.eq_ofNat_of_zero_le hi'.1;have hj:j<n:=by omega
  have ej:((j:Int)).toNat=j:=by omega
  have HS:=aH (i4 h hj);have c0:=h.p0 hj;cases hq:decide (S j 0=pc) with
  |false=>
   have hr2:ah n S j pc=false:=by unfold ah;rw[hi];simpa using hq
   have hr:a8 n S j pc nw=S:=by unfold a8;rw[hr2];rfl
   rw[hr,hr2];have e1:(S j 0 !=pc)=true:=by simpa using hq
   generalize S j 0=q at*;clear h hq hr hr2 hi hi' ej;go_enter func200,ntmps200;go_wp2_with fail;refine HS.o.mono ?_;rintro e w' ⟨rfl,rfl⟩;go_wp2;go_ret;exact⟨rfl,H.o,aF⟩
  |true=>
   have hpc:S j 0=pc:=by simpa using hq
   have hr2:ah n S j pc=true:=by unfold ah;rw[hi];simpa using hq
   have hr:a8 n S j pc nw=ac S j 0 nw:=by unfold a8;rw[hr2,if_pos rfl,ej]
   rw[hr,hr2];rw[hpc] at c0;have e1:(pc !=pc)=false:=by simp
   have hfz:=h.row.frozen;have HP:=aH (h.put j (t:=0) aO nw);clear h hq hr hr2 hi hi' hpc ej;go_enter func200,ntmps200;go_wp2_with fail;refine HS.o.mono ?_;rintro e w' ⟨rfl,rfl⟩;go_wp2;go_ret;exact⟨rfl,HP.o,(ae.refl [sb] w).set ⟨sb,j*4,none⟩ _ (.inl aS)⟩
theorem zH (h:bD w lb sb ab wb tail n A S) (i:Int):Calls prog 195 #[some lb,i] w fun e w'=>e= .returned (.bool (ah n S i 0))∧bD w' lb sb ab wb tail n A (a8 n S i 0 1)∧ae [sb] w w':=by
 have HT:=aH (p7 h i 0 1);clear h;go_enter func195,ntmps195;go_wp2_with fail;refine HT.o.mono ?_;rintro e w' ⟨rfl,hK,hF⟩;have HK:=aH hK;have HF:=aH hF;clear hK hF;go_wp2;go_ret;exact⟨rfl,HK.o,HF.o⟩
theorem s7 (h:bD w lb sb ab wb tail n A S) (i:Int):Calls prog 196 #[some lb,i] w fun e w'=>e= .returned (.bool (ah n S i 10))∧bD w' lb sb ab wb tail n A (a8 n S i 10 11)∧ae [sb] w w':=by
 have HT:=aH (p7 h i 10 11);clear h;go_enter func196,ntmps196;go_wp2_with fail;refine HT.o.mono ?_;rintro e w' ⟨rfl,hK,hF⟩;have HK:=aH hK;have HF:=aH hF;clear hK hF;go_wp2;go_ret;exact⟨rfl,HK.o,HF.o⟩
end
theorem dR (a b c d:Int) (W:World):(Instr.field 138 (.agg #[a,b,c,d]) 0).run prog W= .ok (.int .i64 a) W:=by kernel_rfl
section
variable{w w':World} {lb sb ab wb tail n:Nat} {A A':AR} {S S':Nat→Nat→Int}
theorem u5 (h:bD w lb sb ab wb tail n A S) {j:Nat} (hj:j<n) {res:Int} (fin:Int)
 (HC:∀W,ae [] w W→Calls prog 203 #[some lb,.pointer (some ⟨sb,j*4,none⟩),((j:Int)+1:Int)] W fun e w'=>e= .returned res∧bD w' lb sb ab wb tail n A' S'∧ae [sb,ab,wb] W w'):
 Calls prog 202 #[some lb,j,fin,.func (.func 203) #[some lb] #[]] w fun e w'=>e= .returned (.bool (res==fin))∧bD w' lb sb ab wb tail n A' (ac S' j 0 res)∧ae [sb,ab,wb] w w':=by
 have HS:=aH (i4 h hj);have hn:=h.n32;have HC:=aH (HC w aF);have HJ:=aH hj;clear h;cases hb:(res==fin)
 all_goals
  go_enter func202,ntmps202;go_wp2_with fail;refine HS.o.mono ?_;rintro e w' ⟨rfl,rfl⟩;go_wp2_with(go_at_call 203;refine HC.o.mono ?_;rintro e w2 ⟨rfl,hM,hF⟩;have hz:=hM.row.frozen;have hk0:=hM.p0 HJ.o;have HM:=aH (hM.put j (t:=0) aO res);have HF:=aH (hF.set ⟨sb,j*4,none⟩ (.int .i64 res) (.inl aS));clear hM hF)
  go_ret;exact⟨rfl,HM.o,HF.o⟩
theorem uh (h:bD w lb sb ab wb tail n A S) {j:Nat} (hj:j<n) {res:Int} (fin:Int)
 (HC:∀W,ae [] w W→Calls prog 204 #[some lb,.pointer (some ⟨sb,j*4,none⟩),((j:Int)+1:Int)] W fun e w'=>e= .returned res∧bD w' lb sb ab wb tail n A' S'∧ae [sb,ab,wb] W w'):
 Calls prog 202 #[some lb,j,fin,.func (.func 204) #[some lb] #[]] w fun e w'=>e= .returned (.bool (res==fin))∧bD w' lb sb ab wb tail n A' (ac S' j 0 res)∧ae [sb,ab,wb] w w':=by
 have HS:=aH (i4 h hj);have hn:=h.n32;have HC:=aH (HC w aF);have HJ:=aH hj;clear h;cases hb:(res==fin)
 all_goals
  go_enter func202,ntmps202;go_wp2_with fail;refine HS.o.mono ?_;rintro e w' ⟨rfl,rfl⟩;go_wp2_with(go_at_call 204;refine HC.o.mono ?_;rintro e w2 ⟨rfl,hM,hF⟩;have hz:=hM.row.frozen;have hk0:=hM.p0 HJ.o;have HM:=aH (hM.put j (t:=0) aO res);have HF:=aH (hF.set ⟨sb,j*4,none⟩ (.int .i64 res) (.inl aS));clear hM hF)
  go_ret;exact⟨rfl,HM.o,HF.o⟩
theorem nF:(∀{w:World} {lb sb ab wb tail n:Nat} {A A':AR} {S S':Nat→Nat→Int} (h:bD w lb sb ab wb tail n A S) {j:Nat} (hj:j<n) {pc res:Int} (h0:S j 0=pc) (hpc:1≤pc∧pc<10) (HC:∀W,ae [] w W→Calls prog 203 #[some lb,.pointer (some ⟨sb,j*4,none⟩),((j:Int)+1:Int)] W fun e w'=>e= .returned res∧bD w' lb sb ab wb tail n A' S'∧ae [sb,ab,wb] W w'),Calls prog 199 #[some lb,j] w fun e w'=>e= .returned (.bool (res==10))∧bD w' lb sb ab wb tail n A' (ac S' j 0 res)∧ae [sb,ab,wb] w w')∧(∀{w:World} {lb sb ab wb tail n:Nat} {A A':AR} {S S':Nat→Nat→Int} (h:bD w lb sb ab wb tail n A S) {j:Nat} (hj:j<n) {pc res:Int} (h0:S j 0=pc) (hpc:10<pc) (HC:∀W,ae [] w W→Calls prog 204 #[some lb,.pointer (some ⟨sb,j*4,none⟩),((j:Int)+1:Int)] W fun e w'=>e= .returned res∧bD w' lb sb ab wb tail n A' S'∧ae [sb,ab,wb] W w'),Calls prog 199 #[some lb,j] w fun e w'=>e= .returned (.bool (res==0))∧bD w' lb sb ab wb tail n A' (ac S' j 0 res)∧ae [sb,ab,wb] w w'):=by
 refine⟨?_,?_⟩;all_goals
  intro w lb sb ab wb tail n A A' S S' h j hj pc res h0 hpc HC
 all_goals
  have HS:=aH (gN h j);have fd:=dR;have hr:dq n S j= .agg #[pc,(S j 1:Int),(S j 2:Int),(S j 3:Int)]:=by unfold dq;rw[if_pos (by unfold aZ;simpa using hj),←h0];rfl
  rw[hr] at HS;have d1:decide (0<pc)=true:=by simp;omega
 have d2:decide (pc<10)=true:=by simp;omega
 rotate_left;have d2:decide (pc<10)=false:=by simp;omega
 have d3:decide (10<pc)=true:=by simp;omega
 rotate_left;all_goals
  have hmf:= @aY prog
 have HG:=aH (fun(W:World) (hf:ae [] w W)=>u5 (h.frm hf aS) hj 10 (fun W2 hf2=>HC W2 (hf.trans hf2)));rotate_left;have HG:=aH (fun(W:World) (hf:ae [] w W)=>uh (h.frm hf aS) hj 0 (fun W2 hf2=>HC W2 (hf.trans hf2)));rotate_left;all_goals
  clear h hr h0 hpc hj HC;go_enter func199,ntmps199;go_wp2_with fail;refine HS.o.mono ?_;rintro e w1 ⟨rfl,hF⟩;have HF:=aH hF;clear hF;go_wp2_with(go_at_call 202;refine(HG.o _ HF.o).mono ?_;rintro e w2 ⟨rfl,hM,hF⟩;have HM:=aH (And.intro hM ((HF.o.mono (S':=[sb,ab,wb]) aS).trans hF));clear hM hF)
  go_ret;exact⟨rfl,HM.o⟩
def vT:= @And.left _ _ nF
def tj:= @And.right _ _ nF
theorem DD (h:bD w lb sb ab wb tail n A S) (i:Int) (hi:aZ n i=false∨S i.toNat 0=0∨S i.toNat 0=10):Calls prog 199 #[some lb,i] w fun e w'=>e= .returned false∧ae [] w w':=by
 have HS:=aH (gN h i);have fd:=dR;have hv:∃a b c p:Int,(p=0∨p=10)∧dq n S i= .agg #[p,a,b,c]:=by
  unfold dq;rcases hi with hi|hi|hi
  ·rw[if_neg (by simp[hi])];exact⟨0,0,0,0,.inl rfl,rfl⟩
  ·by_cases hh:aZ n i
   ·rw[if_pos hh];exact⟨_,_,_,_,.inl hi,rfl⟩
   ·rw[if_neg hh];exact⟨0,0,0,0,.inl rfl,rfl⟩
  ·by_cases hh:aZ n i
   ·rw[if_pos hh];exact⟨_,_,_,_,.inr hi,rfl⟩
   ·rw[if_neg hh];exact⟨0,0,0,0,.inl rfl,rfl⟩
 obtain⟨a,b,c,p,hp,hv⟩:=hv;rw[hv] at HS;clear hv hi h;rcases hp with rfl|rfl;all_goals
  go_enter func199,ntmps199;go_wp2_with fail;refine HS.o.mono ?_;rintro e w1 ⟨rfl,hF⟩;have HF:=aH hF;clear hF;go_wp2;go_ret;exact⟨rfl,HF.o⟩
end
theorem i7 {n:Nat} {S:Nat→Nat→Int} {Y:List Value} {i t:Nat} (hi:i<n) (ht:t<4):(cq n S++Y)[i*4+t]? =some (.int .i64 (S i t)):=by
 have:=ag n S hi ht;have hl:i*4+t<(cq n S).length:=(List.getElem?_eq_some_iff.1 this).1;rw[List.getElem?_append_left hl];exact this
theorem CI {n:Nat} {S:Nat→Nat→Int} {Y:List Value} {i t:Nat} (hi:i<n) (ht:t<4) {v:Int}:(cq n S++Y).set (i*4+t) (.int .i64 v)=cq n (ac S i t v)++Y:=by
 have:=ag n S hi ht;have hl:i*4+t<(cq n S).length:=(List.getElem?_eq_some_iff.1 this).1;rw[List.set_append_left _ _ hl,dP n S ht v]
structure cZ (w:World) (lb sb ab wb tail n:Nat) (X:Nat×List Value) (A:AR) (S:Nat→Nat→Int):Prop where
 box:am w lb [some ab,tail,.slice (some ⟨sb,0,none⟩) n X.1] 155
 row:am w sb (cq n S++X.2) 138
 ar:aj w ab wb A
 ne:lb≠sb∧lb≠ab∧lb≠wb∧sb≠ab∧sb≠wb
 n1:1≤n
 n32:n≤32
 tb:tail≤4096
section
variable{w w':World} {lb sb ab wb tail n:Nat} {X:Nat×List Value} {A A':AR} {S:Nat→Nat→Int}
theorem cZ.frm (h:cZ w lb sb ab wb tail n X A S) {Z:List Nat} (hf:ae Z w w') (hz:∀k∈[lb,sb,ab,wb],k∉Z):cZ w' lb sb ab wb tail n X A S:=
 {h with box:=h.box.frm hf (hz _ aS),row:=h.row.frm hf (hz _ aS),ar:=h.ar.frm hf (hz _ aS) (hz _ aS)}
theorem cZ.ar_ (h:cZ w lb sb ab wb tail n X A S) (hf:ae [ab,wb] w w') (hA:aj w' ab wb A'):cZ w' lb sb ab wb tail n X A' S:=
 {h with box:=h.box.frm hf (by simp;have:=h.ne;omega),row:=h.row.frm hf (by simp;have:=h.ne;omega),ar:=hA}
theorem cZ.put (h:cZ w lb sb ab wb tail n X A S) {j:Nat} (hj:j<n) {t:Nat} (ht:t<4) (v:Int):
 cZ (w.setCell (sb,j*4+t) (.int .i64 v)) lb sb ab wb tail n X A (ac S j t v):=by
 have hr:=h.row.set (j*4+t) (.int .i64 v);rw[CI hj ht] at hr;have hf:ae [sb] w (w.setCell (sb,j*4+t) (.int .i64 v)):=aU;have hn:=h.ne;exact{h with box:=h.box.frm hf aQ,row:=hr,ar:=h.ar.frm hf aQ aQ}
theorem cZ.p (h:cZ w lb sb ab wb tail n X A S) {j:Nat} (hj:j<n) {t:Nat} (ht:t<4):w.cell? (sb,j*4+t)=some (.int .i64 (S j t)):=h.row.cell (i7 hj ht)
theorem cZ.p0 (h:cZ w lb sb ab wb tail n X A S) {j:Nat} (hj:j<n):w.cell? (sb,j*4)=some (.int .i64 (S j 0)):=h.row.cell (i7 (t:=0) hj aO)
end
section
variable{w w':World} {lb sb ab wb tail n:Nat} {X:Nat×List Value} {A A':AR} {S:Nat→Nat→Int}
theorem nN (h:cZ w lb sb ab wb tail n X A S):Calls prog 213 #[some lb] w fun e w'=>e= .returned n∧w=w':=by
 have c2:=h.box.cell (i:=2) rfl;clear h;go_enter func213,ntmps213;go_wp2;go_ret;exact⟨rfl,rfl⟩
theorem oL (h:cZ w lb sb ab wb tail n X A S) {i:Int} (hi:aZ n i=false):Calls prog 217 #[some lb,i] w fun e w'=>e= .returned (.pointer none)∧w=w':=by
 have HS:=aH (nN h);clear h;by_cases hneg:i<0
 ·have d1:decide (i<0)=true:=by simpa using hneg
  clear hi;go_enter func217,ntmps217;go_wp2;go_ret;exact⟨rfl,rfl⟩
 ·have d1:decide (i<0)=false:=by simpa using hneg
  have d2:decide ((n:Int)≤i)=true:=by unfold aZ at hi;simp at hi;simp;omega
  clear hi;go_enter func217,ntmps217;go_wp2_with fail;refine HS.o.mono ?_;rintro e w' ⟨rfl,rfl⟩;go_wp2;go_ret;exact⟨rfl,rfl⟩
theorem jf (h:cZ w lb sb ab wb tail n X A S) {i:Nat} (hi:i<n):Calls prog 217 #[some lb,i] w fun e w'=>e= .returned (.pointer (some ⟨sb,i*4,none⟩))∧w=w':=by
 have HS:=aH (nN h);have c2:=h.box.cell (i:=2) rfl;have hn:=h.n32;clear h;have d1:decide ((i:Int)<0)=false:=by simp
 have d2:decide ((n:Int)≤i)=false:=by simp;omega
 have d3:decide (n≤i)=false:=by simp;omega
 have l1:(i:Int)<n:=by omega
 go_enter func217,ntmps217;go_wp2_with fail;refine HS.o.mono ?_;rintro e w' ⟨rfl,rfl⟩;go_wp2;go_ret;exact⟨rfl,rfl⟩
theorem lV (h:cZ w lb sb ab wb tail n X A S) (i:Int):Calls prog 214 #[some lb,i] w fun e w'=>e= .returned (dq n S i)∧ae [] w w':=by
 cases hi:aZ n i with
 |false=>
  have HS:=aH (fun(W:World) (hf:ae [] w W)=>oL (h.frm hf aS) hi);have hr:dq n S i= .agg #[(0:Int),(0:Int),(0:Int),(0:Int)]:=by unfold dq;rw[hi];rfl
  rw[hr];clear h hr hi;go_enter func214,ntmps214;go_wp2_with fail;refine(HS.o _ (aF.alloc _)).mono ?_;rintro e w' ⟨rfl,rfl⟩;go_wp2_with fail;exact bodyPost_ret (v:=.agg #[(0:Int),(0:Int),(0:Int),(0:Int)]) (by simp[results,results214,go_sem]) rfl ⟨rfl,aF.alloc _⟩
 |true=>
  have hi':0≤i∧i<(n:Int):=by unfold aZ at hi;simpa using hi
  obtain⟨j,rfl⟩:=Int.eq_ofNat_of_zero_le hi'.1;have hj:j<n:=by omega
  have HS:=aH (fun(W:World) (hf:ae [] w W)=>jf (h.frm hf aS) hj);have hr:dq n S j= .agg #[(S j 0:Int),(S j 1:Int),(S j 2:Int),(S j 3:Int)]:=by unfold dq;rw[hi];rfl
  rw[hr];have hkk:∀wx,ae [] w wx→wx.cell? (sb,j*4)=some (.int .i64 (S j 0))∧wx.cell? (sb,j*4+1)=some (.int .i64 (S j 1))∧wx.cell? (sb,j*4+2)=some (.int .i64 (S j 2))∧wx.cell? (sb,j*4+3)=some (.int .i64 (S j 3)):=fun wx hf=>
   ⟨(h.frm hf aS).p0 hj,(h.frm hf aS).p hj aO,(h.frm hf aS).p hj aO,(h.frm hf aS).p hj aO⟩
  have KK:=aH hkk;clear h hr hi hkk hi';go_enter func214,ntmps214;go_wp2_with fail;refine(HS.o _ (aF.alloc _)).mono ?_;rintro e w' ⟨rfl,rfl⟩;obtain⟨c0,c1,c2,c3⟩:=KK.o _ ((ae.refl [] w).alloc (.cells #[(0:Int),(0:Int),(0:Int),(0:Int)] 138));go_wp2_with fail;refine bodyPost_ret (v:=.agg #[(S j 0:Int),(S j 1:Int),(S j 2:Int),(S j 3:Int)]) (by simp[results,results214,go_sem]) rfl ⟨rfl,?_⟩;exact aF.alloc _
theorem jh (h:cZ w lb sb ab wb tail n X A S) (i pc nw:Int):Calls prog 216 #[some lb,i,pc,nw] w fun e w'=>e= .returned (.bool (ah n S i pc))∧cZ w' lb sb ab wb tail n X A (a8 n S i pc nw)∧ae [sb] w w':=by
 have H:=aH h;cases hi:aZ n i with
 |false=>
  have hq:ah n S i pc=false:=by unfold ah;rw[hi];rfl
  have hr:a8 n S i pc nw=S:=by unfold a8;rw[hq];rfl
  have HS:=aH (oL h hi);rw[hr,hq];clear h hq hr hi;go_enter func216,ntmps216;go_wp2_with fail;refine HS.o.mono ?_;rintro e w' ⟨rfl,rfl⟩;go_wp2;go_ret;exact⟨rfl,H.o,aF⟩
 |true=>
  have hi':0≤i∧i<(n:Int):=by unfold aZ at hi;simpa using hi
  obtain⟨j,rfl⟩:=Int.eq_ofNat_of_zero_le hi'.1;have hj:j<n:=by omega
  have ej:((j:Int)).toNat=j:=by omega
  have HS:=aH (jf h hj);have c0:=h.p0 hj;cases hq:decide (S j 0=pc) with
  |false=>
   have hr2:ah n S j pc=false:=by unfold ah;rw[hi];simpa using hq
   have hr:a8 n S j pc nw=S:=by unfold a8;rw[hr2];rfl
   rw[hr,hr2];have e1:(S j 0 !=pc)=true:=by simpa using hq
   generalize S j 0=q at*;clear h hq hr hr2 hi hi' ej;go_enter func216,ntmps216;go_wp2_with fail;refine HS.o.mono ?_;rintro e w' ⟨rfl,rfl⟩;go_wp2;go_ret;exact⟨rfl,H.o,aF⟩
  |true=>
   have hpc:S j 0=pc:=by simpa using hq
   have hr2:ah n S j pc=true:=by unfold ah;rw[hi];simpa using hq
   have hr:a8 n S j pc nw=ac S j 0 nw:=by unfold a8;rw[hr2,if_pos rfl,ej]
   rw[hr,hr2];rw[hpc] at c0;have e1:(pc !=pc)=false:=by simp
   have hfz:=h.row.frozen;have HP:=aH (h.put hj (t:=0) aO nw);clear h hq hr hr2 hi hi' hpc ej;go_enter func216,ntmps216;go_wp2_with fail;refine HS.o.mono ?_;rintro e w' ⟨rfl,rfl⟩;go_wp2;go_ret;exact⟨rfl,HP.o,(ae.refl [sb] w).set ⟨sb,j*4,none⟩ _ (.inl aS)⟩
theorem yr (h:cZ w lb sb ab wb tail n X A S) (i:Int):Calls prog 211 #[some lb,i] w fun e w'=>e= .returned (.bool (ah n S i 0))∧cZ w' lb sb ab wb tail n X A (a8 n S i 0 1)∧ae [sb] w w':=by
 have HT:=aH (jh h i 0 1);clear h;go_enter func211,ntmps211;go_wp2_with fail;refine HT.o.mono ?_;rintro e w' ⟨rfl,hK,hF⟩;have HK:=aH hK;have HF:=aH hF;clear hK hF;go_wp2;go_ret;exact⟨rfl,HK.o,HF.o⟩
theorem sR (h:cZ w lb sb ab wb tail n X A S) (i:Int):Calls prog 212 #[some lb,i] w fun e w'=>e= .returned (.bool (ah n S i 10))∧cZ w' lb sb ab wb tail n X A (a8 n S i 10 11)∧ae [sb] w w':=by
 have HT:=aH (jh h i 10 11);clear h;go_enter func212,ntmps212;go_wp2_with fail;refine HT.o.mono ?_;rintro e w' ⟨rfl,hK,hF⟩;have HK:=aH hK;have HF:=aH hF;clear hK hF;go_wp2;go_ret;exact⟨rfl,HK.o,HF.o⟩
end
def b6 (next parts:Nat) (t:Int):Int:=wrap64 (wrap64 ((next:Int)+1)+t.tmod parts)
def lP (n next parts:Nat) (S:Nat→Nat→Int) (A:AR) (i:Int):Bool:=aZ n i&&(if S i.toNat 0=2 then decide (A.get (b6 next parts (S i.toNat 1))=wrap64 (S i.toNat 1+1)) else decide (S i.toNat 0=11))
def jO (n next parts:Nat) (S:Nat→Nat→Int) (A:AR) (i:Int):Nat→Nat→Int:=
 if aZ n i then
  (if S i.toNat 0=1 then ac (ac S i.toNat 1 (wrap64 (A.addRes next 1 - 1))) i.toNat 0 2
   else if S i.toNat 0=2 then(if A.get (b6 next parts (S i.toNat 1))=wrap64 (S i.toNat 1+1) then ac S i.toNat 0 10 else S)
   else if S i.toNat 0=11 then ac S i.toNat 0 0 else S)
 else S
def iK (n next parts:Nat) (S:Nat→Nat→Int) (A:AR) (i:Int):AR:=
 if aZ n i then(if S i.toNat 0=1 then A.add next 1 else if S i.toNat 0=2 then A.load (b6 next parts (S i.toNat 1)) else if S i.toNat 0=11 then A.store (b6 next parts (wrap64 (S i.toNat 1+1))) (wrap64 (S i.toNat 1+2)) else A) else A
def fV (tail:Nat) (x:Int):Int:=wrap64 ((tail:Int)+x)
def lR (n tail:Nat) (S:Nat→Nat→Int) (A:AR) (i:Int):Bool:=aZ n i&&(if S i.toNat 0=3 then decide (A.get (fV tail (S i.toNat 2))=0) else decide (S i.toNat 0=11))
def jP (n tail:Nat) (S:Nat→Nat→Int) (A:AR) (i:Int):Nat→Nat→Int:=
 if aZ n i then
  (if S i.toNat 0=1 then ac S i.toNat 0 2
   else if S i.toNat 0=2 then ac (ac S i.toNat 2 (A.get tail)) i.toNat 0 3
   else if S i.toNat 0=3 then(if A.get (fV tail (S i.toNat 2))=0 then ac S i.toNat 0 10 else S)
   else if S i.toNat 0=11 then ac (ac S i.toNat 1 (S i.toNat 2)) i.toNat 0 0 else S)
 else S
def iO (n tail:Nat) (S:Nat→Nat→Int) (A:AR) (i:Int):AR:=
 if aZ n i then(if S i.toNat 0=1 then A.store (fV tail (S i.toNat 1)) 1 else if S i.toNat 0=2 then A.swap tail (S i.toNat 1) else if S i.toNat 0=3 then A.load (fV tail (S i.toNat 2)) else if S i.toNat 0=11 then A.store (fV tail (S i.toNat 1)) 0 else A) else A
def Fs (n tail:Nat) (S:Nat→Nat→Int) (A:AR) (i:Int):Bool:=ah n S i 10&&decide (A.get tail=S i.toNat 1)
def DE (n tail:Nat) (S:Nat→Nat→Int) (A:AR) (i:Int):AR:=if ah n S i 10 then A.load tail else A
structure lC (S S':Nat→Nat→Int) (j:Nat) (R:Bool):Prop where
 others:∀k,k≠j→S' k 0=S k 0
 coming:1≤S j 0→S j 0<10→1≤S' j 0∧S' j 0≤10∧(R=true↔S' j 0=10)
 going:10<S j 0→(S' j 0=0∨10<S' j 0)∧(R=true↔S' j 0=0)
 idle:S j 0=0∨S j 0=10→S' j 0=S j 0∧R=false
theorem bw (S:Nat→Nat→Int) (j t:Nat) (v:Int) (i u:Nat):ac S j t v i u=if i=j∧u=t then v else S i u:=rfl
theorem bP {n j:Nat} (hj:j<n):aZ n (j:Int)=true:=by unfold aZ;simp;omega
structure TK (n:Nat) (S:Nat→Nat→Int) (V N:Int):Prop where
 v0:0≤V
 vn:V≤N
 pcs:∀j,j<n→S j 0=0∨S j 0=1∨S j 0=2∨S j 0=10∨S j 0=11
 rng:∀j,j<n→2≤S j 0→V≤S j 1∧S j 1<N
 top:∀j,j<n→10≤S j 0→S j 1=V
 inj:∀j k,j<n→k<n→2≤S j 0→2≤S k 0→S j 1=S k 1→j=k
section
variable{n:Nat} {S:Nat→Nat→Int} {V N:Int}
theorem TK.zero (n:Nat):TK n (fun _ _=>0) 0 0:=⟨by omega,by omega,fun _ _=>.inl rfl,fun _ _ h=>by simp at h,fun _ _ h=>by simp at h,fun _ _ _ _ h=>by simp at h⟩
theorem TK.one (h:TK n S V N) {j k:Nat} (hj:j<n) (hk:k<n) (h1:10≤S j 0) (h2:10≤S k 0):j=k:=
 h.inj j k hj hk aO aO (by rw[h.top j hj h1,h.top k hk h2])
theorem TK.draw (h:TK n S V N) {j:Nat} (hj:j<n) (h0:S j 0=1):TK n (ac (ac S j 1 N) j 0 2) V (N+1):=by
 have hs:∀k,k≠j→∀t,ac (ac S j 1 N) j 0 2 k t=S k t:=fun k hk t=>by rw[bw,bw,if_neg (by simp[hk]),if_neg (by simp[hk])]
 have e0:ac (ac S j 1 N) j 0 2 j 0=2:=by rw[bw,if_pos aS]
 have e1:ac (ac S j 1 N) j 0 2 j 1=N:=by rw[bw,if_neg aS,bw,if_pos aS]
 generalize ac (ac S j 1 N) j 0 2=T at*;have hv:=h.vn;refine{v0:=h.v0,vn:=by omega,pcs:=fun k hk=>?_,rng:=fun k hk hc=>?_,top:=fun k hk hc=>?_,inj:=fun a b ha hb h1 h2 he=>?_}
 ·by_cases e:k=j
  ·subst e;omega
  ·rw[hs k e];exact h.pcs k hk
 ·by_cases e:k=j
  ·subst e;omega
  ·rw[hs k e] at hc;rw[hs k e];have:=h.rng k hk hc;omega
 ·by_cases e:k=j
  ·subst e;omega
  ·rw[hs k e] at hc;rw[hs k e];exact h.top k hk hc
 ·by_cases ea:a=j
  ·by_cases eb:b=j
   ·omega
   ·subst ea;rw[hs b eb] at h2 he;have:=h.rng b hb h2;omega
  ·by_cases eb:b=j
   ·subst eb;rw[hs a ea] at h1 he;have:=h.rng a ha h1;omega
   ·rw[hs a ea] at h1 he;rw[hs b eb] at h2 he;exact h.inj a b ha hb h1 h2 he
theorem TK.turn (h:TK n S V N) {j:Nat} (_hj:j<n) {pc:Int} (hp:pc=0∨pc=1∨pc=2∨pc=10∨pc=11) (h2:2≤pc→2≤S j 0) (h3:10≤pc→S j 1=V):TK n (ac S j 0 pc) V N:=by
 have hs:∀k,k≠j→∀t,ac S j 0 pc k t=S k t:=fun k hk t=>by rw[bw,if_neg (by simp[hk])]
 have e0:ac S j 0 pc j 0=pc:=by rw[bw,if_pos aS]
 have e1:∀k,ac S j 0 pc k 1=S k 1:=fun k=>by rw[bw,if_neg aS]
 generalize ac S j 0 pc=T at*;have hup:∀k,2≤T k 0→2≤S k 0:=fun k hc=>by
  by_cases e:k=j
  ·subst e;exact h2 aO
  ·rw[hs k e] at hc;exact hc
 refine{v0:=h.v0,vn:=h.vn,pcs:=fun k hk=>?_,rng:=fun k hk hc=>?_,top:=fun k hk hc=>?_,inj:=fun a b ha hb g1 g2 he=>?_}
 ·by_cases e:k=j
  ·subst e;omega
  ·rw[hs k e];exact h.pcs k hk
 ·rw[e1];exact h.rng k hk (hup k hc)
 ·rw[e1];by_cases e:k=j
  ·subst e;exact h3 aO
  ·rw[hs k e] at hc;exact h.top k hk hc
 ·rw[e1,e1] at he;exact h.inj a b ha hb (hup a g1) (hup b g2) he
theorem TK.free (h:TK n S V N) {j:Nat} (hj:j<n) (h0:10≤S j 0):TK n (ac S j 0 0) (V+1) N∧V<N:=by
 have hs:∀k,k≠j→∀t,ac S j 0 0 k t=S k t:=fun k hk t=>by rw[bw,if_neg (by simp[hk])]
 have e0:ac S j 0 0 j 0=0:=by rw[bw,if_pos aS]
 have hr:=h.rng j hj aO;have ht:=h.top j hj h0;have h0':=h.v0;generalize ac S j 0 0=T at*;refine⟨{v0:=by omega,vn:=by omega,pcs:=fun k hk=>?_,rng:=fun k hk hc=>?_,top:=fun k hk hc=>?_,inj:=fun a b ha hb g1 g2 he=>?_},by omega⟩
 ·by_cases e:k=j
  ·subst e;omega
  ·rw[hs k e];exact h.pcs k hk
 ·have e:k≠j:=fun e=>by subst e;omega
  rw[hs k e] at hc;rw[hs k e];have h1:=h.rng k hk hc;have:S k 1≠V:=fun e'=>e (h.inj k j hk hj hc aO aO);omega
 ·have e:k≠j:=fun e=>by subst e;omega
  rw[hs k e] at hc;exact absurd (h.one hk hj hc h0) e
 ·have ea:a≠j:=fun e=>by subst e;omega
  have eb:b≠j:=fun e=>by subst e;omega
  rw[hs a ea] at g1 he;rw[hs b eb] at g2 he;exact h.inj a b ha hb g1 g2 he
end
structure KI (b n:Nat) (S:Nat→Nat→Int) (A:AR):Prop where
 tk:TK n S (A.get ((b:Int)+1)) (A.get b)
 no:A.get b≤A.ops
section
variable{b n:Nat} {S:Nat→Nat→Int} {A B:AR}
theorem KI.step (h:KI b n S A) (hf:A.Fit) (hl:A.ops<1000000000) (hb:1≤b) (hr:b+2≤A.taken+1) {j:Nat} (hj:j<n):
 KI b n (j5 n b S A j) (iQ n b S A j)∧jg b 2 A (iQ n b S A j)∧(S j 0=1→(iQ n b S A j).ops=A.ops+1)∧lC S (j5 n b S A j) j (mq n b S A j):=by
 have i0:A.has b=true:=bA.2 aO;have i1:A.has ((b:Int)+1)=true:=bA.2 aO;have hv:=h.tk.v0;have hvn:=h.tk.vn;have hno:=h.no;have ht:=hf.2.1;have hrm:A.addRes b 1=A.get b+1:=by unfold AR.addRes;rw[if_pos i0];exact cW aO
 unfold j5 iQ mq;rw[bP hj];simp only[if_true,Bool.true_and,Int.toNat_natCast];rcases h.tk.pcs j hj with q|q|q|q|q
 ·simp only[q,Int.reduceEq,if_true,if_false,decide_true,decide_false];exact⟨h,jg.refl _ _ _,by simp,⟨fun _ _=>rfl,by simp[q],by simp[q],by simp[q]⟩⟩
 ·simp only[q,Int.reduceEq,if_true,if_false,decide_true,decide_false];obtain⟨o1,o2⟩:=zv (b:=b) (m:=2) (d:=1) hf i0 aO aO;have g:=fun k=>qH (A:=A) (i:=b) (d:=1) (j:=k) hf.1 i0;have e:wrap64 (A.addRes b 1 - 1)=A.get b:=by rw[hrm];exact(cW aO).trans aO
  rw[e];refine⟨⟨?_,?_⟩,o1,fun _=>o2,⟨fun k hk=>?_,?_,?_,?_⟩⟩
  ·rw[g,g,if_neg aO,if_pos rfl,cW aO];exact h.tk.draw hj q
  ·rw[g,if_pos rfl,cW aO,o2];omega
  ·rw[bw,if_neg (by simp[hk]),bw,if_neg (by simp[hk])]
  ·intro _ _;rw[bw,if_pos aS];simp
  ·omega
  ·omega
 ·obtain⟨o1,o2⟩:=gc (b:=b) (m:=2) hf i1 aO aO;have hk:∀T:Nat→Nat→Int,TK n T (A.get ((b:Int)+1)) (A.get b)→KI b n T (A.load ((b:Int)+1)):=fun T hT=>⟨by rw[cB,cB];exact hT,by rw[cB,o2];omega⟩
  simp only[q,Int.reduceEq,if_true,if_false,decide_true,decide_false];by_cases c:A.get ((b:Int)+1)=S j 1
  ·simp only[c,if_true,decide_true];refine⟨hk _ (h.tk.turn hj aO aO aO),o1,by omega,⟨fun k hk=>?_,?_,?_,?_⟩⟩
   ·rw[bw,if_neg (by simp[hk])]
   ·intro _ _;rw[bw,if_pos aS];simp
   ·omega
   ·omega
  ·simp only[c,if_true,if_false,decide_false];exact⟨hk _ h.tk,o1,by simp,⟨fun _ _=>rfl,by simp[q],by simp[q],by simp[q]⟩⟩
 ·simp only[q,Int.reduceEq,if_true,if_false,decide_true,decide_false];exact⟨h,jg.refl _ _ _,by simp,⟨fun _ _=>rfl,by simp[q],by simp[q],by simp[q]⟩⟩
 ·have hj1:S j 1=A.get ((b:Int)+1):=h.tk.top j hj aO;obtain⟨hfr,hlt⟩:=h.tk.free hj aO;obtain⟨o1,o2⟩:=cM (b:=b) (m:=2) (v:=wrap64 (S j 1+1)) hf i1 aO aO;have g:=fun k=>ch (A:=A) (i:=(b:Int)+1) (v:=wrap64 (S j 1+1)) (j:=k) hf.1 i1;simp only[q,Int.reduceEq,if_true,if_false,decide_true,decide_false];refine⟨⟨?_,?_⟩,o1,by simp,⟨fun k hk=>?_,?_,?_,?_⟩⟩
  ·rw[g,g,if_pos rfl,if_neg aO,hj1,cW aO];exact hfr
  ·rw[g,if_neg aO,o2];omega
  ·rw[bw,if_neg (by simp[hk])]
  ·omega
  ·intro _;rw[bw,if_pos aS];simp
  ·omega
end
section
variable{w w':World} {lb sb ab wb tail n:Nat} {X:Nat×List Value} {A A':AR} {S:Nat→Nat→Int}
theorem x8 (h:cZ w lb sb ab wb tail n X A S) {bx:Nat} (hc:w.cell? (bx,0)=some (.pointer (some ⟨lb,0,none⟩))) (y:Int):Calls prog 218 #[y,some bx] w fun e w'=>e= .returned (fV tail y:Int)∧w=w':=by
 have c1:=h.box.cell (i:=1) rfl;have htb:=h.tb;clear h;unfold fV;go_enter func218,ntmps218;go_wp2;go_ret;exact⟨rfl,rfl⟩
theorem nU (h:cZ w lb sb ab wb tail n X A S) (i:Int) (hi:aZ n i=false∨(S i.toNat 0≠1∧S i.toNat 0≠2∧S i.toNat 0≠3∧S i.toNat 0≠11)):Calls prog 215 #[some lb,i] w fun e w'=>e= .returned false∧ae [] w w':=by
 have hF:ae [] w (w.alloc (.cells #[some lb] 110)):=aF.alloc _;have hmf:= @aY prog;cases hh:aZ n i with
 |false=>
  have HS:=aH (fun(W:World) (hf:ae [] w W)=>oL (h.frm hf aS) hh);clear h hi hh;go_enter func215,ntmps215;go_wp2_with fail;refine(HS.o _ hF).mono ?_;rintro e w' ⟨rfl,rfl⟩;have HF:=aH hF;clear hF;go_wp2;go_ret;exact⟨rfl,HF.o⟩
 |true=>
  have hi':0≤i∧i<(n:Int):=by unfold aZ at hh;simpa using hh
  obtain⟨j,rfl⟩:=Int.eq_ofNat_of_zero_le hi'.1;have hj:j<n:=by omega
  have hi2:=hi.resolve_left (by simp[hh]);rw[Int.toNat_natCast] at hi2;obtain⟨p1,p2,p3,p4⟩:=hi2;have HS:=aH (fun(W:World) (hf:ae [] w W)=>jf (h.frm hf aS) hj);have hc0:=(h.frm hF aS).p0 hj;generalize S j 0=p at*;have d1:(p==1)=false:=by simpa using p1
  have d2:(p==2)=false:=by simpa using p2
  have d3:(p==3)=false:=by simpa using p3
  have d4:(p==11)=false:=by simpa using p4
  clear h hi hh p1 p2 p3 p4 hi';go_enter func215,ntmps215;go_wp2_with fail;refine(HS.o _ hF).mono ?_;rintro e w' ⟨rfl,rfl⟩;have HF:=aH hF;clear hF;go_wp2;go_ret;exact⟨rfl,HF.o⟩
theorem fT:(∀{w:World} {lb sb ab wb tail n:Nat} {X:Nat×List Value} {A:AR} {S:Nat→Nat→Int} (h:cZ w lb sb ab wb tail n X A S) {j:Nat} (hj:j<n) (hq:S j 0=2),Calls prog 215 #[some lb,j] w fun e w'=>e= .returned false∧cZ w' lb sb ab wb tail n X (A.swap tail (S j 1)) (ac (ac S j 2 (A.get tail)) j 0 3)∧ae [sb,ab,wb] w w')∧(∀{w:World} {lb sb ab wb tail n:Nat} {X:Nat×List Value} {A:AR} {S:Nat→Nat→Int} (h:cZ w lb sb ab wb tail n X A S) {j:Nat} (hj:j<n) (hq:S j 0=1),Calls prog 215 #[some lb,j] w fun e w'=>e= .returned false∧cZ w' lb sb ab wb tail n X (A.store (fV tail (S j 1)) 1) (ac S j 0 2)∧ae [sb,ab,wb] w w')∧(∀{w:World} {lb sb ab wb tail n:Nat} {X:Nat×List Value} {A:AR} {S:Nat→Nat→Int} (h:cZ w lb sb ab wb tail n X A S) {j:Nat} (hj:j<n) (hq:S j 0=11),Calls prog 215 #[some lb,j] w fun e w'=>e= .returned true∧cZ w' lb sb ab wb tail n X (A.store (fV tail (S j 1)) 0) (ac (ac S j 1 (S j 2)) j 0 0)∧ae [sb,ab,wb] w w')∧(∀{w:World} {lb sb ab wb tail n:Nat} {X:Nat×List Value} {A:AR} {S:Nat→Nat→Int} (h:cZ w lb sb ab wb tail n X A S) {j:Nat} (hj:j<n) (hq:S j 0=3) (hg:A.get (fV tail (S j 2))=0),Calls prog 215 #[some lb,j] w fun e w'=>e= .returned true∧cZ w' lb sb ab wb tail n X (A.load (fV tail (S j 2))) (ac S j 0 10)∧ae [sb,ab,wb] w w')∧(∀{w:World} {lb sb ab wb tail n:Nat} {X:Nat×List Value} {A:AR} {S:Nat→Nat→Int} (h:cZ w lb sb ab wb tail n X A S) {j:Nat} (hj:j<n) (hq:S j 0=3) (hg:¬A.get (fV tail (S j 2))=0),Calls prog 215 #[some lb,j] w fun e w'=>e= .returned false∧cZ w' lb sb ab wb tail n X (A.load (fV tail (S j 2))) (S)∧ae [sb,ab,wb] w w'):=by
 refine⟨?_,?_,?_,?_,?_⟩;iterate 3
  intro w lb sb ab wb tail n X A S h j hj hq;rotate_left
 iterate 2
  intro w lb sb ab wb tail n X A S h j hj hq hg;rotate_left
 all_goals
  have HN:=aH h.ne;have HJ:=aH hj;have hn32:=h.n32;have htb:=h.tb
 have e0:fV tail 0=(tail:Int):=by unfold fV;exact(cW aO).trans aO
 have E0:=aH e0;clear e0;rotate_left;rotate_left 4;all_goals
  have HS:=aH (fun(W:World) (hf:ae [] w W)=>jf (h.frm hf aS) hj);have hc0:=fun(W:World) (hf:ae [] w W)=>(h.frm hf aS).p0 hj;simp only[hq] at hc0;have HC0:=aH hc0;have hmf:= @aY prog;have HLT:=aH h.box.lt;have HLS:=aH h.row.lt;have HLA:=aH h.ar.box.lt;have HLB:=aH h.ar.row.lt;have H:=aH h;have H0:=aH hq;have i1:(j:Int)<n:=by omega
  clear h hq hj hc0
 generalize hx:A.get tail=x;have HX:=aH hx;clear hx;rotate_left;rotate_left 2;have HX:=aH hg;clear hg;rotate_left;generalize hx:A.get (fV tail (S j 2))=x at*;have e1:(x==0)=false:=by simpa using hg
 have HX:=aH hx;clear hx hg;rotate_left;all_goals
  go_enter func215,ntmps215;go_wp2_with fail;have hF:ae [] w (w.alloc (.cells #[some lb] 110)):=aF.alloc _;have hc0:=HC0.o _ hF;have hb0:=(am.new w #[some lb] 110).cell (i:=0) rfl;have HBX:=aH (am.new w #[some lb] 110);refine(HS.o _ hF).mono ?_;rintro e w' ⟨rfl,rfl⟩;have HFW:=aH hF;have HAW:=aH (H.o.frm hF aS);have hK0:=HAW.o.p0 HJ.o;clear hF;obtain⟨bx,hbx⟩:∃bx,bx=w.heap.size:=⟨_,rfl⟩
  have hnb:bx≠lb∧bx≠sb∧bx≠ab∧bx≠wb:=by have:=HLT.o;have:=HLS.o;have:=HLA.o;have:=HLB.o;omega
  have HNB:=aH hnb;clear hnb;rw[←hbx] at hb0 HBX;rw[←hbx];clear hbx;generalize hWW:w.alloc (.cells #[some lb] 110)=W at*;clear hWW
 have hne:Nonempty (HW (fun wx=>ae [sb,ab,wb] W wx∧wx.cell? (sb,j*4+1)=some (.int .i64 (S j 1)))):=⟨⟨W,aF,HAW.o.p HJ.o aO⟩⟩
 have hz0:∀q:HW (fun wx=>ae [sb,ab,wb] W wx∧wx.cell? (sb,j*4+1)=some (.int .i64 (S j 1))),q.w.cell? (lb,0)=some (.pointer (some ⟨ab,0,none⟩)):=fun q=>(HAW.o.box.frm q.h.1 aV).cell (i:=0) rfl;have hz1:∀q:HW (fun wx=>ae [sb,ab,wb] W wx∧wx.cell? (sb,j*4+1)=some (.int .i64 (S j 1))),q.w.cell? (lb,1)=some (.int .i64 tail):=fun q=>(HAW.o.box.frm q.h.1 aV).cell (i:=1) rfl;have hz2:∀q:HW (fun wx=>ae [sb,ab,wb] W wx∧wx.cell? (sb,j*4+1)=some (.int .i64 (S j 1))),q.w.cell? (lb,2)=some (.slice (some ⟨sb,0,none⟩) n X.1):=fun q=>(HAW.o.box.frm q.h.1 aV).cell (i:=2) rfl;have hy1:∀q:HW (fun wx=>ae [sb,ab,wb] W wx∧wx.cell? (sb,j*4+1)=some (.int .i64 (S j 1))),q.w.cell? (sb,j*4+1)=some (.int .i64 (S j 1)):=fun q=>q.h.2;have hx0:∀q:HW (fun wx=>ae [sb,ab,wb] W wx∧wx.cell? (sb,j*4+1)=some (.int .i64 (S j 1))),q.w.cell? (bx,0)=some (.pointer (some ⟨lb,0,none⟩)):=fun q=>(HBX.o.frm q.h.1 (by simp;have:=HNB.o;omega)).cell (i:=0) rfl;rotate_left;iterate 2
  have hne:=aW [ab,wb] W;have hz0:∀q:HW (fun wx=>ae [ab,wb] W wx),q.w.cell? (lb,0)=some (.pointer (some ⟨ab,0,none⟩)):=fun q=>(HAW.o.box.frm q.h aV).cell (i:=0) rfl;have hz1:∀q:HW (fun wx=>ae [ab,wb] W wx),q.w.cell? (lb,1)=some (.int .i64 tail):=fun q=>(HAW.o.box.frm q.h aV).cell (i:=1) rfl;have hz2:∀q:HW (fun wx=>ae [ab,wb] W wx),q.w.cell? (lb,2)=some (.slice (some ⟨sb,0,none⟩) n X.1):=fun q=>(HAW.o.box.frm q.h aV).cell (i:=2) rfl;have hy1:∀q:HW (fun wx=>ae [ab,wb] W wx),q.w.cell? (sb,j*4+1)=some (.int .i64 (S j 1)):=fun q=>(HAW.o.row.frm q.h aV).cell (i7 HJ.o aO);have hy2:∀q:HW (fun wx=>ae [ab,wb] W wx),q.w.cell? (sb,j*4+2)=some (.int .i64 (S j 2)):=fun q=>(HAW.o.row.frm q.h aV).cell (i7 HJ.o aO);have hx0:∀q:HW (fun wx=>ae [ab,wb] W wx),q.w.cell? (bx,0)=some (.pointer (some ⟨lb,0,none⟩)):=fun q=>(HBX.o.frm q.h (by simp;have:=HNB.o;omega)).cell (i:=0) rfl;rotate_left
 iterate 2
  have hne:Nonempty (HW (fun wx=>ae [sb,ab,wb] W wx∧wx.cell? (sb,j*4+2)=some (.int .i64 (S j 2)))):=⟨⟨W,aF,HAW.o.p HJ.o aO⟩⟩
  have hz0:∀q:HW (fun wx=>ae [sb,ab,wb] W wx∧wx.cell? (sb,j*4+2)=some (.int .i64 (S j 2))),q.w.cell? (lb,0)=some (.pointer (some ⟨ab,0,none⟩)):=fun q=>(HAW.o.box.frm q.h.1 aV).cell (i:=0) rfl;have hz1:∀q:HW (fun wx=>ae [sb,ab,wb] W wx∧wx.cell? (sb,j*4+2)=some (.int .i64 (S j 2))),q.w.cell? (lb,1)=some (.int .i64 tail):=fun q=>(HAW.o.box.frm q.h.1 aV).cell (i:=1) rfl;have hz2:∀q:HW (fun wx=>ae [sb,ab,wb] W wx∧wx.cell? (sb,j*4+2)=some (.int .i64 (S j 2))),q.w.cell? (lb,2)=some (.slice (some ⟨sb,0,none⟩) n X.1):=fun q=>(HAW.o.box.frm q.h.1 aV).cell (i:=2) rfl;have hy2:∀q:HW (fun wx=>ae [sb,ab,wb] W wx∧wx.cell? (sb,j*4+2)=some (.int .i64 (S j 2))),q.w.cell? (sb,j*4+2)=some (.int .i64 (S j 2)):=fun q=>q.h.2;have hx0:∀q:HW (fun wx=>ae [sb,ab,wb] W wx∧wx.cell? (sb,j*4+2)=some (.int .i64 (S j 2))),q.w.cell? (bx,0)=some (.pointer (some ⟨lb,0,none⟩)):=fun q=>(HBX.o.frm q.h.1 (by simp;have:=HNB.o;omega)).cell (i:=0) rfl;rotate_left
 all_goals
  have HBOX:=aH (fun(W':World) (hf:ae [] W W') (y:Int)=>x8 (HAW.o.frm hf aS) ((HBX.o.frm hf aS).cell (i:=0) rfl) y);go_wp2_with fail
 refine aG (fun wx=>ae [sb,ab,wb] W wx∧wx.cell? (sb,j*4+1)=some (.int .i64 (S j 1))) ?_;refine aR (fuel:=5) [0,1,2,3,4,5,7,8,9,10] rfl ⟨aF.drew1,HAW.o.p HJ.o aO⟩ ?_;rotate_left;iterate 2
  refine aG (fun wx=>ae [ab,wb] W wx) ?_;refine aR (fuel:=2) [0,1,2,3,4,5,6,7,8] rfl aF.drew1 ?_;rotate_left
 iterate 2
  refine aG (fun wx=>ae [sb,ab,wb] W wx∧wx.cell? (sb,j*4+2)=some (.int .i64 (S j 2))) ?_;refine aR (fuel:=9) [0,1,2,3,4,5,6,7,8] rfl ⟨aF.drew1,HAW.o.p HJ.o aO⟩ ?_;rotate_left
 all_goals
  intro K hK;repeat (go_big_quiet_step (fail))
  refine wpQuiet_nil (hK _ ?_);clear hK K
 refine aL 6 (fuel:=4) rfl ?_;rotate_left;iterate 2
  refine aL 9 (fuel:=1) rfl ?_;rotate_left
 iterate 2
  refine aL 9 (fuel:=8) rfl ?_;rotate_left
 all_goals
  go_wp2_with fail
 focus
  go_at_call 218;refine(HBOX.o _ (aF.drew1) _).mono ?_;rw[E0.o];rintro e w' ⟨rfl,rfl⟩
 rotate_left;iterate 4
  focus
   go_at_call 218;refine(HBOX.o _ (aF.drew1) _).mono ?_;rintro e w' ⟨rfl,rfl⟩
  rotate_left
 all_goals
  go_wp2_with fail
 refine af ⟨⟨aF.drew1,HAW.o.p HJ.o aO⟩,?_⟩;refine aL 11 (fuel:=3) rfl ?_;rotate_left;iterate 2
  refine af ⟨aF.drew1,?_⟩;refine aL 10 (fuel:=0) rfl ?_;rotate_left
 iterate 2
  refine af ⟨⟨aF.drew1,HAW.o.p HJ.o aO⟩,?_⟩;refine aL 10 (fuel:=7) rfl ?_;rotate_left
 all_goals
  go_wp2_with fail
 refine(eo (HAW.o.ar.frm (S:=[]) (aF.drew1) aS aS) (tail) (S j 1)).mono ?_;rw[HX.o];rintro e w1 ⟨rfl,hA,hF⟩;have HF1:=aH (((ae.refl [ab,wb] W).drew1).trans hF);have H1:=aH (HAW.o.ar_ HF1.o hA);have j1:=H1.o.p HJ.o (t:=1) aO;have j2:=H1.o.p HJ.o (t:=2) aO;have jz:=H1.o.row.frozen;clear hA hF;rotate_left;refine(au (HAW.o.ar.frm (S:=[]) (aF.drew1) aS aS) (fV tail (S j 1)) (1)).mono ?_;rintro e w1 ⟨rfl,hA,hF⟩;have HF1:=aH (((ae.refl [ab,wb] W).drew1).trans hF);have H1:=aH (HAW.o.ar_ HF1.o hA);have j1:=H1.o.p HJ.o (t:=1) aO;have j2:=H1.o.p HJ.o (t:=2) aO;have jz:=H1.o.row.frozen;clear hA hF;rotate_left;refine(au (HAW.o.ar.frm (S:=[]) (aF.drew1) aS aS) (fV tail (S j 1)) (0)).mono ?_;rintro e w1 ⟨rfl,hA,hF⟩;have HF1:=aH (((ae.refl [ab,wb] W).drew1).trans hF);have H1:=aH (HAW.o.ar_ HF1.o hA);have j1:=H1.o.p HJ.o (t:=1) aO;have j2:=H1.o.p HJ.o (t:=2) aO;have jz:=H1.o.row.frozen;clear hA hF;rotate_left;iterate 2
  refine(bq (HAW.o.ar.frm (S:=[]) (aF.drew1) aS aS) (fV tail (S j 2))).mono ?_;rw[HX.o];rintro e w1 ⟨rfl,hA,hF⟩;have HF1:=aH (((ae.refl [ab,wb] W).drew1).trans hF);have H1:=aH (HAW.o.ar_ HF1.o hA);have j1:=H1.o.p HJ.o (t:=1) aO;have j2:=H1.o.p HJ.o (t:=2) aO;have jz:=H1.o.row.frozen;clear hA hF;rotate_left
 all_goals
  go_wp2_with fail
 focus
  refine af ⟨⟨(HF1.o.mono (S':=[sb,ab,wb]) aS),H1.o.p HJ.o (t:=1) aO⟩,?_⟩;refine aR (fuel:=1) [12,13] rfl ⟨(HF1.o.mono (S':=[sb,ab,wb]) aS),H1.o.p HJ.o (t:=1) aO⟩ ?_;intro K hK;repeat (go_big_quiet_step (fail))
  refine wpQuiet_nil (hK _ ?_);clear hK K;refine aL 14 (fuel:=0) rfl ?_;go_wp2_with fail;refine af ⟨⟨((HF1.o.mono (S':=[sb,ab,wb]) aS).set ⟨sb,j*4+2,none⟩ (.int .i64 (x)) (.inl aS)),((H1.o.put HJ.o (t:=2) aO x).p HJ.o (t:=1) aO).trans (by simp[ac])⟩,?_⟩
 rotate_left;iterate 2
  refine af ⟨HF1.o,?_⟩;rotate_left
 focus
  refine af ⟨⟨(HF1.o.mono (S':=[sb,ab,wb]) aS),H1.o.p HJ.o (t:=2) aO⟩,?_⟩;refine aR (fuel:=3) [11,12,13,14] rfl ⟨(HF1.o.mono (S':=[sb,ab,wb]) aS),H1.o.p HJ.o (t:=2) aO⟩ ?_;intro K hK;repeat (go_big_quiet_step (fail))
  refine wpQuiet_nil (hK _ ?_);clear hK K;refine aL 15 (fuel:=2) rfl ?_;go_wp2_with fail;have hok:ah n S j 3=true:=(by unfold ah;rw[bP HJ.o,Int.toNat_natCast,H0.o];rfl);have hT:=jh H1.o j 3 10;unfold a8 at hT;rw[hok,if_pos rfl,Int.toNat_natCast] at hT;refine hT.mono ?_;rintro e w3 ⟨rfl,hK,hF⟩;have HK3:=aH hK;have HF3:=aH (((HFW.o.mono (S':=[sb,ab,wb]) aS).trans ((HF1.o.mono (S':=[sb,ab,wb]) aS).trans (hF.mono (S':=[sb,ab,wb]) aS))));have HFK:=aH ((HF1.o.mono (S':=[sb,ab,wb]) aS).trans (hF.mono (S':=[sb,ab,wb]) aS));clear hK hF hT hok;go_wp2_with fail;refine af ⟨⟨HFK.o,(HK3.o.p HJ.o (t:=2) aO).trans (by simp[ac])⟩,?_⟩;refine aR (fuel:=0) [16,17] rfl ⟨HFK.o,(HK3.o.p HJ.o (t:=2) aO).trans (by simp[ac])⟩ ?_;intro K hK;repeat (go_big_quiet_step (fail))
  refine wpQuiet_nil (hK _ ?_);clear hK K
 rotate_left
 focus
  refine af ⟨⟨(HF1.o.mono (S':=[sb,ab,wb]) aS),H1.o.p HJ.o (t:=2) aO⟩,?_⟩;refine aR (fuel:=3) [11,12,13,14] rfl ⟨(HF1.o.mono (S':=[sb,ab,wb]) aS),H1.o.p HJ.o (t:=2) aO⟩ ?_;intro K hK;repeat (go_big_quiet_step (fail))
  refine wpQuiet_nil (hK _ ?_);clear hK K;refine aL 15 (fuel:=2) rfl ?_;go_wp2_with fail;refine af ⟨⟨(HF1.o.mono (S':=[sb,ab,wb]) aS),H1.o.p HJ.o (t:=2) aO⟩,?_⟩;refine aR (fuel:=0) [16,17] rfl ⟨(HF1.o.mono (S':=[sb,ab,wb]) aS),H1.o.p HJ.o (t:=2) aO⟩ ?_;intro K hK;repeat (go_big_quiet_step (fail))
  refine wpQuiet_nil (hK _ ?_);clear hK K
 rotate_left;all_goals
  refine aN ?_
 clear hne hz0 hz1 hz2 hy1 hx0;have HB:=aH (H1.o.put HJ.o (t:=2) aO (x));have HF2:=aH ((HFW.o.mono (S':=[sb,ab,wb]) aS).trans ((HF1.o.mono (S':=[sb,ab,wb]) aS).set ⟨sb,j*4+2,none⟩ (.int .i64 (x)) (.inl aS)));clear H1 HF1 j1 j2 jz;generalize(w1.setCell (sb,j*4+2) (.int .i64 (x)))=W2 at*;have k0:=HB.o.p0 HJ.o;have kz:=HB.o.row.frozen;have HK3:=aH (HB.o.put HJ.o (t:=0) aO 3);have HF3:=aH (HF2.o.set ⟨sb,j*4,none⟩ (.int .i64 3) (.inl aS));rotate_left;clear hne hz0 hz1 hz2 hy1 hy2;clear hx0;have HB:=aH H1.o;have HF2:=aH ((HFW.o.mono (S':=[sb,ab,wb]) aS).trans (HF1.o.mono (S':=[sb,ab,wb]) aS));clear H1 HF1 j1 j2 jz;have k0:=HB.o.p0 HJ.o;have kz:=HB.o.row.frozen;have HK3:=aH (HB.o.put HJ.o (t:=0) aO 2);have HF3:=aH (HF2.o.set ⟨sb,j*4,none⟩ (.int .i64 2) (.inl aS));rotate_left
 focus
  clear hne hz0 hz1 hz2 hy1 hy2;clear hx0;have HB:=aH (H1.o.put HJ.o (t:=1) aO (S j 2));have HF2:=aH (((HFW.o.mono (S':=[sb,ab,wb]) aS).trans ((HF1.o.mono (S':=[sb,ab,wb]) aS).set ⟨sb,j*4+1,none⟩ (.int .i64 (S j 2)) (.inl aS))));have HX0:=aH ((HBX.o.frm HF1.o (by simp;have:=HNB.o;omega)).other ⟨sb,j*4+1,none⟩ (.int .i64 (S j 2)) (by simp;have:=HNB.o;omega));have hok:ah n (ac S j 1 (S j 2)) j 11=true:=by unfold ah;rw[bP HJ.o,Int.toNat_natCast];simp[ac,H0.o]
  have hT:=jh HB.o j 11 0;unfold a8 at hT;rw[hok,if_pos rfl,Int.toNat_natCast] at hT;have HT:=aH hT;clear hT hok HB;have hxb:=HX0.o.cell (i:=0) rfl;go_wp2_with fail;refine HT.o.mono ?_;rintro e w3 ⟨rfl,hK,hF⟩;have HK3:=aH hK;have HF3:=aH (HF2.o.trans (hF.mono (S':=[sb,ab,wb]) aS));clear hK hF
 rotate_left;rotate_left;have HB:=aH H1.o;have HF2:=aH ((HFW.o.mono (S':=[sb,ab,wb]) aS).trans (HF1.o.mono (S':=[sb,ab,wb]) aS));clear H1 HF1 j1 j2 jz;rotate_left;all_goals
  go_wp2;go_ret
 iterate 4
  exact⟨rfl,HK3.o,HF3.o⟩
 ·exact⟨rfl,HB.o,HF2.o⟩
def BY:= @And.left _ _ fT
def Cn:= @And.left _ _ (@And.right _ _ fT)
def xN:= @And.left _ _ (@And.right _ _ (@And.right _ _ fT))
def wN:= @And.left _ _ (@And.right _ _ (@And.right _ _ (@And.right _ _ fT)))
def tp:= @And.right _ _ (@And.right _ _ (@And.right _ _ (@And.right _ _ fT)))
theorem wE (h:cZ w lb sb ab wb tail n X A S) (i:Int):Calls prog 215 #[some lb,i] w fun e w'=>e= .returned (.bool (lR n tail S A i))∧
 cZ w' lb sb ab wb tail n X (iO n tail S A i) (jP n tail S A i)∧ae [sb,ab,wb] w w':=by
 cases hi:aZ n i with
 |false=>
  refine(nU h i (.inl hi)).mono fun e w' ⟨g1,g2⟩=>⟨?_,?_,g2.mono aS⟩
  ·unfold lR;rw[hi];exact g1
  ·unfold iO jP;rw[hi];exact h.frm g2 aS
 |true=>
  have hi':0≤i∧i<(n:Int):=by unfold aZ at hi;simpa using hi
  obtain⟨j,rfl⟩:=Int.eq_ofNat_of_zero_le hi'.1;have hj:j<n:=by omega
  unfold lR iO jP;rw[hi,Int.toNat_natCast];simp only[Bool.true_and,if_true];by_cases q1:S j 0=1
  ·simp only[q1,Int.reduceEq,if_true,if_false,decide_true,decide_false];exact Cn h hj q1
  by_cases q2:S j 0=2
  ·simp only[q2,Int.reduceEq,if_true,if_false,decide_true,decide_false];exact BY h hj q2
  by_cases q3:S j 0=3
  ·by_cases c:A.get (fV tail (S j 2))=0
   ·simp only[q3,Int.reduceEq,if_true,if_false,if_pos c,decide_eq_true c];exact wN h hj q3 c
   ·simp only[q3,Int.reduceEq,if_true,if_false,if_neg c,decide_eq_false c];exact tp h hj q3 c
  by_cases q4:S j 0=11
  ·simp only[q4,Int.reduceEq,if_true,if_false,decide_true,decide_false];exact xN h hj q4
  ·simp only[if_neg q1,if_neg q2,if_neg q3,if_neg q4,decide_eq_false q4];refine(nU h j (.inr ?_)).mono fun e w' ⟨g1,g2⟩=>⟨g1,h.frm g2 aS,g2.mono aS⟩
   rw[Int.toNat_natCast];exact⟨q1,q2,q3,q4⟩
theorem tR (h:cZ w lb sb ab wb tail n X A S) {j:Nat} (hj:j<n) (hq:S j 0=10):Calls prog 210 #[some lb,j] w fun e w'=>e= .returned (.bool (A.get tail==S j 1))∧
 cZ w' lb sb ab wb tail n X (A.load tail) S∧ae [ab,wb] w w':=by
 have HN:=aH h.ne;have HJ:=aH hj;have hn32:=h.n32;have htb:=h.tb;have hr:dq n S j= .agg #[(10:Int),(S j 1:Int),(S j 2:Int),(S j 3:Int)]:=by unfold dq;rw[bP hj,if_pos rfl,←hq];rfl
 have hS:=fun(W':World) (hf:ae [] w W')=>lV (h.frm hf aS) (j:Int);simp only[hr] at hS;have HS:=aH hS;have fd:=dR;have i1:(j:Int)<n:=by omega
 have HAW:=aH h;obtain⟨W,rfl⟩:∃W,W=w:=⟨_,rfl⟩
 have hne:=aW [ab,wb] W;have hz0:∀q:HW (fun wx=>ae [ab,wb] W wx),q.w.cell? (lb,0)=some (.pointer (some ⟨ab,0,none⟩)):=fun q=>(HAW.o.box.frm q.h aV).cell (i:=0) rfl;have hz1:∀q:HW (fun wx=>ae [ab,wb] W wx),q.w.cell? (lb,1)=some (.int .i64 tail):=fun q=>(HAW.o.box.frm q.h aV).cell (i:=1) rfl;have hz2:∀q:HW (fun wx=>ae [ab,wb] W wx),q.w.cell? (lb,2)=some (.slice (some ⟨sb,0,none⟩) n X.1):=fun q=>(HAW.o.box.frm q.h aV).cell (i:=2) rfl;have hy1:∀q:HW (fun wx=>ae [ab,wb] W wx),q.w.cell? (sb,j*4+1)=some (.int .i64 (S j 1)):=fun q=>(HAW.o.row.frm q.h aV).cell (i7 HJ.o aO);have hy2:∀q:HW (fun wx=>ae [ab,wb] W wx),q.w.cell? (sb,j*4+2)=some (.int .i64 (S j 2)):=fun q=>(HAW.o.row.frm q.h aV).cell (i7 HJ.o aO);clear h hS hr hq hj;generalize hx:A.get tail=x;have HX:=aH hx;clear hx;go_enter func210,ntmps210;go_wp2_with fail;refine aG (fun wx=>ae [ab,wb] W wx) ?_;refine aR (fuel:=24) [0,1] rfl aF.drew1 ?_;intro K hK;repeat (go_big_quiet_step (fail))
 refine wpQuiet_nil (hK _ ?_);clear hK K;refine aL 2 (fuel:=23) rfl ?_;go_wp2_with fail;refine(HS.o _ (aF.drew1)).mono ?_;rintro e Ws ⟨rfl,hFs⟩;have HFs:=aH (((aF.drew1:ae [] W W.drew)).trans hFs);clear hFs;go_wp2_with fail;refine af ⟨(HFs.o.mono aS),?_⟩;refine aR (fuel:=4) [3,4,5,6,7,8,9,10,11,12,13,15,16,17,18,19,20,21,22] rfl (HFs.o.mono aS) ?_;intro K hK;repeat (go_big_quiet_step (fail))
 refine wpQuiet_nil (hK _ ?_);clear hK K;refine aL 14 (fuel:=3) rfl ?_;go_wp2_with fail;refine(bq (HAW.o.ar.frm (S:=[]) HFs.o aS aS) (tail)).mono ?_;rw[HX.o];rintro e w1 ⟨rfl,hA,hF⟩;have HF1:=aH ((HFs.o.mono (S':=[ab,wb]) aS).trans hF);have H1:=aH (HAW.o.ar_ HF1.o hA);clear hA hF;go_wp2_with fail;refine af ⟨HF1.o,?_⟩;refine aR (fuel:=0) [23,24,25] rfl HF1.o ?_;intro K hK;repeat (go_big_quiet_step (fail))
 refine wpQuiet_nil (hK _ ?_);clear hK K;refine aN ?_;go_wp2;go_ret;exact⟨rfl,H1.o,HF1.o⟩
theorem wl (h:cZ w lb sb ab wb tail n X A S) (i:Int) (hq:ah n S i 10=false):Calls prog 210 #[some lb,i] w fun e w'=>e= .returned false∧ae [] w w':=by
 have hv:∃a b c p:Int,p≠10∧dq n S i= .agg #[p,a,b,c]:=by
  unfold dq;by_cases hh:aZ n i=true
  ·rw[if_pos hh];exact⟨_,_,_,_,by unfold ah at hq;rw[hh] at hq;simpa using hq,rfl⟩
  ·rw[if_neg hh];exact⟨0,0,0,0,by omega,rfl⟩
 obtain⟨a,b,c,p,p1,hr⟩:=hv;have hS:=fun(W':World) (hf:ae [] w W')=>lV (h.frm hf aS) i;simp only[hr] at hS;have HS:=aH hS;have fd:=dR;have d1:(p==10)=false:=by simpa using p1
 obtain⟨W,rfl⟩:∃W,W=w:=⟨_,rfl⟩
 have hne:=aW [] W;clear h hS hr hq p1;go_enter func210,ntmps210;go_wp2_with fail;refine aG (fun wx=>ae [] W wx) ?_;refine aR (fuel:=24) [0,1] rfl aF.drew1 ?_;intro K hK;repeat (go_big_quiet_step (fail))
 refine wpQuiet_nil (hK _ ?_);clear hK K;refine aL 2 (fuel:=23) rfl ?_;go_wp2_with fail;refine(HS.o _ (aF.drew1)).mono ?_;rintro e Ws ⟨rfl,hFs⟩;have HFs:=aH (((aF.drew1:ae [] W W.drew)).trans hFs);clear hFs;go_wp2_with fail;refine af ⟨HFs.o,?_⟩;refine aR (fuel:=4) [3,4,5,6,7,8,9,10,11,12,13,15,16,17,18,19,20,21,22] rfl HFs.o ?_;intro K hK;repeat (go_big_quiet_step (fail))
 refine wpQuiet_nil (hK _ ?_);clear hK K;refine aL 14 (fuel:=3) rfl ?_;go_wp2_with fail;refine af ⟨HFs.o,?_⟩;refine aR (fuel:=0) [23,24,25] rfl HFs.o ?_;intro K hK;repeat (go_big_quiet_step (fail))
 refine wpQuiet_nil (hK _ ?_);clear hK K;refine aN ?_;go_wp2;go_ret;exact⟨rfl,HFs.o⟩
theorem tB (h:cZ w lb sb ab wb tail n X A S) (i:Int):Calls prog 210 #[some lb,i] w fun e w'=>e= .returned (.bool (Fs n tail S A i))∧
 cZ w' lb sb ab wb tail n X (DE n tail S A i) S∧ae [sb,ab,wb] w w':=by
 unfold Fs DE;cases hq:ah n S i 10 with
 |false=>
  simp only[Bool.false_and,Bool.false_eq_true,if_false];exact(wl h i hq).mono fun e w' ⟨h1,h2⟩=>⟨h1,h.frm h2 aS,h2.mono aS⟩
 |true=>
  simp only[Bool.true_and,if_true];have hq':aZ n i=true∧S i.toNat 0=10:=by unfold ah at hq;simpa using hq
  have hi':0≤i∧i<(n:Int):=by have:=hq'.1;unfold aZ at this;simpa using this
  obtain⟨j,rfl⟩:=Int.eq_ofNat_of_zero_le hi'.1;rw[Int.toNat_natCast] at hq'⊢;refine(tR h (by omega:j<n) hq'.2).mono fun e w' ⟨h1,h2,h3⟩=>⟨?_,h2,h3.mono aS⟩
  rw[h1];exact bH (by simp[BEq.beq])
end
structure cH (w:World) (lb sb ab wb next parts n:Nat) (A:AR) (S:Nat→Nat→Int):Prop where
 box:am w lb [some ab,next,parts,.slice (some ⟨sb,0,none⟩) n n] 150
 row:am w sb (cq n S) 138
 ar:aj w ab wb A
 ne:lb≠sb∧lb≠ab∧lb≠wb∧sb≠ab∧sb≠wb
 n1:1≤n
 n32:n≤32
 tb:next≤4096
 q1:1≤parts
 q2:parts≤32
section
variable{w w':World} {lb sb ab wb next parts n:Nat} {A A':AR} {S:Nat→Nat→Int}
theorem cH.frm (h:cH w lb sb ab wb next parts n A S) {Z:List Nat} (hf:ae Z w w') (hz:∀k∈[lb,sb,ab,wb],k∉Z):cH w' lb sb ab wb next parts n A S:=
 {h with box:=h.box.frm hf (hz _ aS),row:=h.row.frm hf (hz _ aS),ar:=h.ar.frm hf (hz _ aS) (hz _ aS)}
theorem cH.ar_ (h:cH w lb sb ab wb next parts n A S) (hf:ae [ab,wb] w w') (hA:aj w' ab wb A'):cH w' lb sb ab wb next parts n A' S:=
 {h with box:=h.box.frm hf (by simp;have:=h.ne;omega),row:=h.row.frm hf (by simp;have:=h.ne;omega),ar:=hA}
theorem cH.put (h:cH w lb sb ab wb next parts n A S) (j:Nat) {t:Nat} (ht:t<4) (v:Int):
 cH (w.setCell (sb,j*4+t) (.int .i64 v)) lb sb ab wb next parts n A (ac S j t v):=by
 have hr:=h.row.set (j*4+t) (.int .i64 v);rw[dP n S ht v] at hr;have hf:ae [sb] w (w.setCell (sb,j*4+t) (.int .i64 v)):=aU;have hn:=h.ne;exact{h with box:=h.box.frm hf aQ,row:=hr,ar:=h.ar.frm hf aQ aQ}
theorem cH.p (h:cH w lb sb ab wb next parts n A S) {j:Nat} (hj:j<n) {t:Nat} (ht:t<4):w.cell? (sb,j*4+t)=some (.int .i64 (S j t)):=h.row.cell (ag n S hj ht)
theorem cH.p0 (h:cH w lb sb ab wb next parts n A S) {j:Nat} (hj:j<n):w.cell? (sb,j*4)=some (.int .i64 (S j 0)):=h.row.cell (ag n S (t:=0) hj aO)
end
section
variable{w w':World} {lb sb ab wb next parts n:Nat} {A A':AR} {S:Nat→Nat→Int}
theorem oC (h:cH w lb sb ab wb next parts n A S):Calls prog 187 #[some lb] w fun e w'=>e= .returned n∧w=w':=by
 have c3:=h.box.cell (i:=3) rfl;clear h;go_enter func187,ntmps187;go_wp2;go_ret;exact⟨rfl,rfl⟩
theorem oA (h:cH w lb sb ab wb next parts n A S) {i:Int} (hi:aZ n i=false):Calls prog 191 #[some lb,i] w fun e w'=>e= .returned (.pointer none)∧w=w':=by
 have HS:=aH (oC h);clear h;by_cases hneg:i<0
 ·have d1:decide (i<0)=true:=by simpa using hneg
  clear hi;go_enter func191,ntmps191;go_wp2;go_ret;exact⟨rfl,rfl⟩
 ·have d1:decide (i<0)=false:=by simpa using hneg
  have d2:decide ((n:Int)≤i)=true:=by unfold aZ at hi;simp at hi;simp;omega
  clear hi;go_enter func191,ntmps191;go_wp2_with fail;refine HS.o.mono ?_;rintro e w' ⟨rfl,rfl⟩;go_wp2;go_ret;exact⟨rfl,rfl⟩
theorem gB (h:cH w lb sb ab wb next parts n A S) {i:Nat} (hi:i<n):Calls prog 191 #[some lb,i] w fun e w'=>e= .returned (.pointer (some ⟨sb,i*4,none⟩))∧w=w':=by
 have HS:=aH (oC h);have c3:=h.box.cell (i:=3) rfl;have hn:=h.n32;clear h;have d1:decide ((i:Int)<0)=false:=by simp
 have d2:decide ((n:Int)≤i)=false:=by simp;omega
 have d3:decide (n≤i)=false:=by simp;omega
 have l1:(i:Int)<n:=by omega
 go_enter func191,ntmps191;go_wp2_with fail;refine HS.o.mono ?_;rintro e w' ⟨rfl,rfl⟩;go_wp2;go_ret;exact⟨rfl,rfl⟩
theorem lH (h:cH w lb sb ab wb next parts n A S) (i:Int):Calls prog 188 #[some lb,i] w fun e w'=>e= .returned (dq n S i)∧ae [] w w':=by
 cases hi:aZ n i with
 |false=>
  have HS:=aH (fun(W:World) (hf:ae [] w W)=>oA (h.frm hf aS) hi);have hr:dq n S i= .agg #[(0:Int),(0:Int),(0:Int),(0:Int)]:=by unfold dq;rw[hi];rfl
  rw[hr];clear h hr hi;go_enter func188,ntmps188;go_wp2_with fail;refine(HS.o _ (aF.alloc _)).mono ?_;rintro e w' ⟨rfl,rfl⟩;go_wp2_with fail;exact bodyPost_ret (v:=.agg #[(0:Int),(0:Int),(0:Int),(0:Int)]) (by simp[results,results188,go_sem]) rfl ⟨rfl,aF.alloc _⟩
 |true=>
  have hi':0≤i∧i<(n:Int):=by unfold aZ at hi;simpa using hi
  obtain⟨j,rfl⟩:=Int.eq_ofNat_of_zero_le hi'.1;have hj:j<n:=by omega
  have HS:=aH (fun(W:World) (hf:ae [] w W)=>gB (h.frm hf aS) hj);have hr:dq n S j= .agg #[(S j 0:Int),(S j 1:Int),(S j 2:Int),(S j 3:Int)]:=by unfold dq;rw[hi];rfl
  rw[hr];have hkk:∀wx,ae [] w wx→wx.cell? (sb,j*4)=some (.int .i64 (S j 0))∧wx.cell? (sb,j*4+1)=some (.int .i64 (S j 1))∧wx.cell? (sb,j*4+2)=some (.int .i64 (S j 2))∧wx.cell? (sb,j*4+3)=some (.int .i64 (S j 3)):=fun wx hf=>
   ⟨(h.frm hf aS).p0 hj,(h.frm hf aS).p hj aO,(h.frm hf aS).p hj aO,(h.frm hf aS).p hj aO⟩
  have KK:=aH hkk;clear h hr hi hkk hi';go_enter func188,ntmps188;go_wp2_with fail;refine(HS.o _ (aF.alloc _)).mono ?_;rintro e w' ⟨rfl,rfl⟩;obtain⟨c0,c1,c2,c3⟩:=KK.o _ ((ae.refl [] w).alloc (.cells #[(0:Int),(0:Int),(0:Int),(0:Int)] 138));go_wp2_with fail;refine bodyPost_ret (v:=.agg #[(S j 0:Int),(S j 1:Int),(S j 2:Int),(S j 3:Int)]) (by simp[results,results188,go_sem]) rfl ⟨rfl,?_⟩;exact aF.alloc _
theorem gZ (h:cH w lb sb ab wb next parts n A S) (i pc nw:Int):Calls prog 190 #[some lb,i,pc,nw] w fun e w'=>e= .returned (.bool (ah n S i pc))∧cH w' lb sb ab wb next parts n A (a8 n S i pc nw)∧ae [sb] w w':=by
 have H:=aH h;cases hi:aZ n i with
 |false=>
  have hq:ah n S i pc=false:=by unfold ah;rw[hi];rfl
  have hr:a8 n S i pc nw=S:=by unfold a8;rw[hq];rfl
  have HS:=aH (oA h hi);rw[hr,hq];clear h hq hr hi;go_enter func190,ntmps190;go_wp2_with fail;refine HS.o.mono ?_;rintro e w' ⟨rfl,rfl⟩;go_wp2;go_ret;exact⟨rfl,H.o,aF⟩
 |true=>
  have hi':0≤i∧i<(n:Int):=by unfold aZ at hi;simpa using hi
  obtain⟨j,rfl⟩:=Int.eq_ofNat_of_zero_le hi'.1;have hj:j<n:=by omega
  have ej:((j:Int)).toNat=j:=by omega
  have HS:=aH (gB h hj);have c0:=h.p0 hj;cases hq:decide (S j 0=pc) with
  |false=>
   have hr2:ah n S j pc=false:=by unfold ah;rw[hi];simpa using hq
   have hr:a8 n S j pc nw=S:=by unfold a8;rw[hr2];rfl
   rw[hr,hr2];have e1:(S j 0 !=pc)=true:=by simpa using hq
   generalize S j 0=q at*;clear h hq hr hr2 hi hi' ej;go_enter func190,ntmps190;go_wp2_with fail;refine HS.o.mono ?_;rintro e w' ⟨rfl,rfl⟩;go_wp2;go_ret;exact⟨rfl,H.o,aF⟩
  |true=>
   have hpc:S j 0=pc:=by simpa using hq
   have hr2:ah n S j pc=true:=by unfold ah;rw[hi];simpa using hq
   have hr:a8 n S j pc nw=ac S j 0 nw:=by unfold a8;rw[hr2,if_pos rfl,ej]
   rw[hr,hr2];rw[hpc] at c0;have e1:(pc !=pc)=false:=by simp
   have hfz:=h.row.frozen;have HP:=aH (h.put j (t:=0) aO nw);clear h hq hr hr2 hi hi' hpc ej;go_enter func190,ntmps190;go_wp2_with fail;refine HS.o.mono ?_;rintro e w' ⟨rfl,rfl⟩;go_wp2;go_ret;exact⟨rfl,HP.o,(ae.refl [sb] w).set ⟨sb,j*4,none⟩ _ (.inl aS)⟩
theorem xQ (h:cH w lb sb ab wb next parts n A S) (i:Int):Calls prog 185 #[some lb,i] w fun e w'=>e= .returned (.bool (ah n S i 0))∧cH w' lb sb ab wb next parts n A (a8 n S i 0 1)∧ae [sb] w w':=by
 have HT:=aH (gZ h i 0 1);clear h;go_enter func185,ntmps185;go_wp2_with fail;refine HT.o.mono ?_;rintro e w' ⟨rfl,hK,hF⟩;have HK:=aH hK;have HF:=aH hF;clear hK hF;go_wp2;go_ret;exact⟨rfl,HK.o,HF.o⟩
theorem su (h:cH w lb sb ab wb next parts n A S) (i:Int):Calls prog 186 #[some lb,i] w fun e w'=>e= .returned (.bool (ah n S i 10))∧cH w' lb sb ab wb next parts n A (a8 n S i 10 11)∧ae [sb] w w':=by
 have HT:=aH (gZ h i 10 11);clear h;go_enter func186,ntmps186;go_wp2_with fail;refine HT.o.mono ?_;rintro e w' ⟨rfl,hK,hF⟩;have HK:=aH hK;have HF:=aH hF;clear hK hF;go_wp2;go_ret;exact⟨rfl,HK.o,HF.o⟩
end
section
variable{w w':World} {lb sb ab wb next parts n:Nat} {A A':AR} {S:Nat→Nat→Int}
theorem km (h:cH w lb sb ab wb next parts n A S) (t:Int):Calls prog 64 #[some lb,t] w fun e w'=>e= .returned (b6 next parts t:Int)∧ae [] w w':=by
 have c1:=h.box.cell (i:=1) rfl;have c2:=h.box.cell (i:=2) rfl;have htb:=h.tb;have hq1:=h.q1;have hq2:=h.q2;have d1:((parts:Int)==0)=false:=by simpa using(show¬parts=0 by omega)
 have d2:(parts==0)=false:=by simpa using(show¬parts=0 by omega)
 have d3:¬parts=0:=by omega
 have e1:wrap64 ((next:Int)+1)=next+1:=cW aO;clear h;unfold b6;rw[e1];go_enter func64,ntmps64;go_wp2
 go_quiet (fail)
 go_wp2;all_goals
  go_ret;exact⟨by first|rfl|(simp[IntWalk.i64_left]),by repeat (first|exact aF|apply ae.drew1|apply ae.drew)⟩
theorem jI:(∀{w:World} {lb sb ab wb next parts n:Nat} {A:AR} {S:Nat→Nat→Int} (h:cH w lb sb ab wb next parts n A S) (a:Int),Calls prog 193 #[some lb,a] w fun e w'=>e= .returned (.bool (A.get (b6 next parts a)==wrap64 (a+1)))∧cH w' lb sb ab wb next parts n (A.load (b6 next parts a)) S∧ae [ab,wb] w w')∧(∀{w:World} {lb sb ab wb next parts n:Nat} {A:AR} {S:Nat→Nat→Int} (h:cH w lb sb ab wb next parts n A S) (a:Int),Calls prog 231 #[some lb,a] w fun e w'=>e= .returned (.bool (A.get next==wrap64 (a+1)))∧cH w' lb sb ab wb next parts n (A.load next) S∧ae [ab,wb] w w'):=by
 refine⟨?_,?_⟩;all_goals
  intro w lb sb ab wb next parts n A S h a
 all_goals
  have HN:=aH h.ne;have htb:=h.tb;have HAW:=aH h;obtain⟨W,rfl⟩:∃W,W=w:=⟨_,rfl⟩
 have HPL:=aH (fun(W':World) (hf:ae [] W W') (y:Int)=>km (h.frm hf aS) y);rotate_left;rotate_left;all_goals
  have hne:=aW [ab,wb] W;have hz0:∀q:HW (fun wx=>ae [ab,wb] W wx),q.w.cell? (lb,0)=some (.pointer (some ⟨ab,0,none⟩)):=fun q=>(HAW.o.box.frm q.h aV).cell (i:=0) rfl;have hz1:∀q:HW (fun wx=>ae [ab,wb] W wx),q.w.cell? (lb,1)=some (.int .i64 next):=fun q=>(HAW.o.box.frm q.h aV).cell (i:=1) rfl;have hz2:∀q:HW (fun wx=>ae [ab,wb] W wx),q.w.cell? (lb,2)=some (.int .i64 parts):=fun q=>(HAW.o.box.frm q.h aV).cell (i:=2) rfl;have hz3:∀q:HW (fun wx=>ae [ab,wb] W wx),q.w.cell? (lb,3)=some (.slice (some ⟨sb,0,none⟩) n n):=fun q=>(HAW.o.box.frm q.h aV).cell (i:=3) rfl;clear h
 generalize hx:A.get (b6 next parts a)=x;rotate_left;generalize hx:A.get next=x;rotate_left;all_goals
  have HX:=aH hx;clear hx
 focus
  go_enter func193,ntmps193
 rotate_left
 focus
  go_enter func231,ntmps231
 rotate_left;all_goals
  go_wp2_with fail;refine aG (fun wx=>ae [ab,wb] W wx) ?_
 refine aR (fuel:=4) [0,1,2,3,4,5,8,9] rfl aF.drew1 ?_;rotate_left;refine aR (fuel:=3) [0,1,2,3,4,5,6,7,9,10] rfl aF.drew1 ?_;rotate_left;all_goals
  intro K hK;repeat (go_big_quiet_step (fail))
  refine wpQuiet_nil (hK _ ?_);clear hK K
 refine aL 6 (fuel:=3) rfl ?_;rotate_left;refine aL 8 (fuel:=2) rfl ?_;rotate_left;all_goals
  go_wp2_with fail
 refine(HPL.o _ (aF.drew1) _).mono ?_;rintro e Wp ⟨rfl,hFp⟩;have HFp:=aH (((aF.drew1:ae [] W W.drew)).trans hFp);clear hFp;rotate_left;refine(bq (HAW.o.ar.frm (S:=[]) (aF.drew1) aS aS) next).mono ?_;rw[HX.o];rintro e w1 ⟨rfl,hA,hF⟩;have HF1:=aH (((ae.refl [ab,wb] W).drew1).trans hF);have H1:=aH (HAW.o.ar_ HF1.o hA);clear hA hF;rotate_left;all_goals
  go_wp2_with fail
 focus
  refine af ⟨HFp.o.mono aS,?_⟩;refine aL 7 (fuel:=2) rfl ?_;go_wp2_with fail;refine(bq (HAW.o.ar.frm (S:=[]) HFp.o aS aS) (b6 next parts a)).mono ?_;rw[HX.o];rintro e w1 ⟨rfl,hA,hF⟩;have HF1:=aH ((HFp.o.mono (S':=[ab,wb]) aS).trans hF);have H1:=aH (HAW.o.ar_ HF1.o hA);clear hA hF;go_wp2_with fail
 rotate_left;rotate_left;all_goals
  refine af ⟨HF1.o,?_⟩
 refine aR (fuel:=0) [10,11] rfl HF1.o ?_;rotate_left;refine aR (fuel:=0) [11,12] rfl HF1.o ?_;rotate_left;all_goals
  intro K hK;repeat (go_big_quiet_step (fail))
  refine wpQuiet_nil (hK _ ?_);clear hK K;refine aN ?_;go_wp2;go_ret;exact⟨bH (by simp[BEq.beq]),H1.o,HF1.o⟩
def rY:= @And.left _ _ jI
def vO:= @And.right _ _ jI
theorem kI (h:cH w lb sb ab wb next parts n A S) {j:Nat} (hj:j<n) {pc:Int} (h0:S j 0=pc):Calls prog 192 #[some lb,j,pc,.func (.func 193) #[] #[]] w fun e w'=>e= .returned (.bool (A.get (b6 next parts (S j 1))==wrap64 (S j 1+1)))∧
 cH w' lb sb ab wb next parts n (A.load (b6 next parts (S j 1))) S∧ae [ab,wb] w w':=by
 have HS:=aH (gB h hj);have HC:=aH (rY h (S j 1));have c0:=h.p0 hj;rw[h0] at c0;have c1:=h.p hj (t:=1) aO;have d1:(pc==pc)=true:=by simp
 clear h;generalize(A.get (b6 next parts (S j 1))==wrap64 (S j 1+1))=r at*;go_enter func192,ntmps192;go_wp2_with fail;refine HS.o.mono ?_;rintro e w' ⟨rfl,rfl⟩;go_wp2_with(go_at_call 193;refine HC.o.mono ?_;rintro e w1 ⟨rfl,hK,hF⟩;have HK:=aH hK;have HF:=aH hF;clear hK hF)
 go_ret;exact⟨rfl,HK.o,HF.o⟩
theorem sM (h:cH w lb sb ab wb next parts n A S) {j:Nat} (hj:j<n) {pc:Int} (h0:S j 0=pc):Calls prog 192 #[some lb,j,pc,.func (.func 231) #[] #[]] w fun e w'=>e= .returned (.bool (A.get next==wrap64 (S j 1+1)))∧
 cH w' lb sb ab wb next parts n (A.load next) S∧ae [ab,wb] w w':=by
 have HS:=aH (gB h hj);have HC:=aH (vO h (S j 1));have c0:=h.p0 hj;rw[h0] at c0;have c1:=h.p hj (t:=1) aO;have d1:(pc==pc)=true:=by simp
 clear h;generalize(A.get next==wrap64 (S j 1+1))=r at*;go_enter func192,ntmps192;go_wp2_with fail;refine HS.o.mono ?_;rintro e w' ⟨rfl,rfl⟩;go_wp2_with(go_at_call 231;refine HC.o.mono ?_;rintro e w1 ⟨rfl,hK,hF⟩;have HK:=aH hK;have HF:=aH hF;clear hK hF)
 go_ret;exact⟨rfl,HK.o,HF.o⟩
theorem o6 (h:cH w lb sb ab wb next parts n A S) {i pc:Int} (hq:ah n S i pc=false):Calls prog 192 #[some lb,i,pc,.func (.func 231) #[] #[]] w fun e w'=>e= .returned false∧w=w':=by
 cases hi:aZ n i with
 |false=>
  have HS:=aH (oA h hi);clear h hi hq;go_enter func192,ntmps192;go_wp2_with fail;refine HS.o.mono ?_;rintro e w' ⟨rfl,rfl⟩;go_wp2;go_ret;exact⟨rfl,rfl⟩
 |true=>
  have hi':0≤i∧i<(n:Int):=by unfold aZ at hi;simpa using hi
  obtain⟨j,rfl⟩:=Int.eq_ofNat_of_zero_le hi'.1;have hj:j<n:=by omega
  have HS:=aH (gB h hj);have c0:=h.p0 hj;have d1:(S j 0==pc)=false:=by unfold ah at hq;rw[hi] at hq;simpa using hq
  generalize S j 0=q at*;clear h hi hq hi';go_enter func192,ntmps192;go_wp2_with fail;refine HS.o.mono ?_;rintro e w' ⟨rfl,rfl⟩;go_wp2;go_ret;exact⟨rfl,rfl⟩
theorem sy (h:cH w lb sb ab wb next parts n A S) (i:Int):Calls prog 184 #[some lb,i] w fun e w'=>e= .returned (.bool (vC n next S A i))∧
 cH w' lb sb ab wb next parts n (u1 n next S A i) S∧ae [sb,ab,wb] w w':=by
 have HC:Calls prog 192 #[some lb,i,(10:Int),.func (.func 231) #[] #[]] w fun e w'=>e= .returned (.bool (vC n next S A i))∧cH w' lb sb ab wb next parts n (u1 n next S A i) S∧ae [sb,ab,wb] w w':=by
  unfold vC u1;cases hq:ah n S i 10 with
  |false=>
   simp only[Bool.false_and,Bool.false_eq_true,if_false];exact(o6 h hq).mono fun e w' ⟨h1,h2⟩=>by subst h2;exact⟨h1,h,aF⟩
  |true=>
   simp only[Bool.true_and,if_true];have hq':aZ n i=true∧S i.toNat 0=10:=by unfold ah at hq;simpa using hq
   have hi':0≤i∧i<(n:Int):=by have:=hq'.1;unfold aZ at this;simpa using this
   obtain⟨j,rfl⟩:=Int.eq_ofNat_of_zero_le hi'.1;rw[Int.toNat_natCast] at hq'⊢;refine(sM h (by omega:j<n) hq'.2).mono fun e w' ⟨h1,h2,h3⟩=>⟨?_,h2,h3.mono aS⟩
   rw[h1];exact bH (by simp[BEq.beq])
 have HC:=aH HC;clear h;go_enter func184,ntmps184;go_wp2_with(go_at_call 192;refine HC.o.mono ?_;rintro e w1 ⟨rfl,hK,hF⟩;have HK:=aH hK;have HF:=aH hF;clear hK hF)
 go_ret;exact⟨rfl,HK.o,HF.o⟩
theorem oS (h:cH w lb sb ab wb next parts n A S) (i:Int) (hi:aZ n i=false∨(S i.toNat 0≠1∧S i.toNat 0≠2∧S i.toNat 0≠11)):Calls prog 189 #[some lb,i] w fun e w'=>e= .returned false∧ae [] w w':=by
 have HS:=aH (lH h i);have fd:=dR;have hv:∃a b c p:Int,(p≠1∧p≠2∧p≠11)∧dq n S i= .agg #[p,a,b,c]:=by
  unfold dq;by_cases hh:aZ n i=true
  ·rw[if_pos hh];exact⟨_,_,_,_,hi.resolve_left (by simp[hh]),rfl⟩
  ·rw[if_neg hh];exact⟨0,0,0,0,by omega,rfl⟩
 obtain⟨a,b,c,p,⟨p1,p2,p3⟩,hv⟩:=hv;rw[hv] at HS;have d1:(p==1)=false:=by simpa using p1
 have d2:(p==2)=false:=by simpa using p2
 have d3:(p==11)=false:=by simpa using p3
 clear hv hi h p1 p2 p3;go_enter func189,ntmps189;go_wp2_with fail;refine HS.o.mono ?_;rintro e w1 ⟨rfl,hF⟩;have HF:=aH hF;clear hF;go_wp2;go_ret;exact⟨rfl,HF.o⟩
theorem eY:(∀{w:World} {lb sb ab wb next parts n:Nat} {A:AR} {S:Nat→Nat→Int} (h:cH w lb sb ab wb next parts n A S) {j:Nat} (hj:j<n) (hq:S j 0=1),Calls prog 189 #[some lb,j] w fun e w'=>e= .returned false∧cH w' lb sb ab wb next parts n (A.add next 1) (ac (ac S j 1 (wrap64 (A.addRes next 1 - 1))) j 0 2)∧ae [sb,ab,wb] w w')∧(∀{w:World} {lb sb ab wb next parts n:Nat} {A:AR} {S:Nat→Nat→Int} (h:cH w lb sb ab wb next parts n A S) {j:Nat} (hj:j<n) (hq:S j 0=11),Calls prog 189 #[some lb,j] w fun e w'=>e= .returned true∧cH w' lb sb ab wb next parts n (A.store (b6 next parts (wrap64 (S j 1+1))) (wrap64 (S j 1+2))) (ac S j 0 0)∧ae [sb,ab,wb] w w')∧(∀{w:World} {lb sb ab wb next parts n:Nat} {A:AR} {S:Nat→Nat→Int} (h:cH w lb sb ab wb next parts n A S) {j:Nat} (hj:j<n) (hq:S j 0=2) (hg:A.get (b6 next parts (S j 1))=wrap64 (S j 1+1)),Calls prog 189 #[some lb,j] w fun e w'=>e= .returned true∧cH w' lb sb ab wb next parts n (A.load (b6 next parts (S j 1))) (ac S j 0 10)∧ae [sb,ab,wb] w w')∧(∀{w:World} {lb sb ab wb next parts n:Nat} {A:AR} {S:Nat→Nat→Int} (h:cH w lb sb ab wb next parts n A S) {j:Nat} (hj:j<n) (hq:S j 0=2) (hg:¬A.get (b6 next parts (S j 1))=wrap64 (S j 1+1)),Calls prog 189 #[some lb,j] w fun e w'=>e= .returned false∧cH w' lb sb ab wb next parts n (A.load (b6 next parts (S j 1))) (S)∧ae [sb,ab,wb] w w'):=by
 refine⟨?_,?_,?_,?_⟩;iterate 2
  intro w lb sb ab wb next parts n A S h j hj hq;rotate_left
 iterate 2
  intro w lb sb ab wb next parts n A S h j hj hq hg;rotate_left
 all_goals
  have HN:=aH h.ne;have HJ:=aH hj;have hn32:=h.n32;have htb:=h.tb
 rotate_left 2;have hC:=fun W (hf:ae [] w W)=>kI (h.frm hf aS) hj hq;have hb:(A.get (b6 next parts (S j 1))==wrap64 (S j 1+1))=true:=by simpa using hg
 rw[hb] at hC;have HC:=aH hC;clear hC hb hg;rotate_left;have hC:=fun W (hf:ae [] w W)=>kI (h.frm hf aS) hj hq;have hb:(A.get (b6 next parts (S j 1))==wrap64 (S j 1+1))=false:=by simpa using hg
 rw[hb] at hC;have HC:=aH hC;clear hC hb hg;rotate_left;all_goals
  have HS:=aH (lH h j);have fd:=dR
 have hr:dq n S j= .agg #[(1:Int),(S j 1:Int),(S j 2:Int),(S j 3:Int)]:=by unfold dq;rw[bP hj,if_pos rfl,←hq];rfl
 rotate_left;have hr:dq n S j= .agg #[(11:Int),(S j 1:Int),(S j 2:Int),(S j 3:Int)]:=by unfold dq;rw[bP hj,if_pos rfl,←hq];rfl
 rotate_left;iterate 2
  have hr:dq n S j= .agg #[(2:Int),(S j 1:Int),(S j 2:Int),(S j 3:Int)]:=by unfold dq;rw[bP hj,if_pos rfl,←hq];rfl
  rotate_left
 all_goals
  rw[hr] at HS;have H:=aH h;have H0:=aH hq;have i1:(j:Int)<n:=by omega
  clear h hr hq hj
 generalize hx:A.addRes next 1=x;have HX:=aH hx;clear hx;rotate_left;rotate_left 3;all_goals
  go_enter func189,ntmps189;go_wp2_with fail;refine HS.o.mono ?_;rintro e W ⟨rfl,hF⟩;have HFW:=aH hF;have HAW:=aH (H.o.frm hF aS);clear hF
 have hne:=aW [sb,ab,wb] W;have hz0:∀q:HW (fun wx=>ae [sb,ab,wb] W wx),q.w.cell? (lb,0)=some (.pointer (some ⟨ab,0,none⟩)):=fun q=>(HAW.o.box.frm q.h aV).cell (i:=0) rfl;have hz1:∀q:HW (fun wx=>ae [sb,ab,wb] W wx),q.w.cell? (lb,1)=some (.int .i64 next):=fun q=>(HAW.o.box.frm q.h aV).cell (i:=1) rfl;have hz2:∀q:HW (fun wx=>ae [sb,ab,wb] W wx),q.w.cell? (lb,2)=some (.int .i64 parts):=fun q=>(HAW.o.box.frm q.h aV).cell (i:=2) rfl;have hz3:∀q:HW (fun wx=>ae [sb,ab,wb] W wx),q.w.cell? (lb,3)=some (.slice (some ⟨sb,0,none⟩) n n):=fun q=>(HAW.o.box.frm q.h aV).cell (i:=3) rfl;rotate_left;have hne:=aW [ab,wb] W;have hz0:∀q:HW (fun wx=>ae [ab,wb] W wx),q.w.cell? (lb,0)=some (.pointer (some ⟨ab,0,none⟩)):=fun q=>(HAW.o.box.frm q.h aV).cell (i:=0) rfl;have hz1:∀q:HW (fun wx=>ae [ab,wb] W wx),q.w.cell? (lb,1)=some (.int .i64 next):=fun q=>(HAW.o.box.frm q.h aV).cell (i:=1) rfl;have hz2:∀q:HW (fun wx=>ae [ab,wb] W wx),q.w.cell? (lb,2)=some (.int .i64 parts):=fun q=>(HAW.o.box.frm q.h aV).cell (i:=2) rfl;have hz3:∀q:HW (fun wx=>ae [ab,wb] W wx),q.w.cell? (lb,3)=some (.slice (some ⟨sb,0,none⟩) n n):=fun q=>(HAW.o.box.frm q.h aV).cell (i:=3) rfl;have hy1:∀q:HW (fun wx=>ae [ab,wb] W wx),q.w.cell? (sb,j*4+1)=some (.int .i64 (S j 1)):=fun q=>(HAW.o.row.frm q.h aV).cell (ag n S HJ.o aO);have hy2:∀q:HW (fun wx=>ae [ab,wb] W wx),q.w.cell? (sb,j*4+2)=some (.int .i64 (S j 2)):=fun q=>(HAW.o.row.frm q.h aV).cell (ag n S HJ.o aO);have HPL:=aH (fun(W':World) (hf:ae [] W W') (y:Int)=>km (HAW.o.frm hf aS) y);rotate_left;rotate_left 2;all_goals
  go_wp2_with fail
 focus
  refine aG (fun wx=>ae [sb,ab,wb] W wx) ?_;refine aR (fuel:=5) [0,1,2,3,4,5,6,7,8,9,10,11,12] rfl aF.drew1 ?_;intro K hK;repeat (go_big_quiet_step (fail))
  refine wpQuiet_nil (hK _ ?_);clear hK K;refine aL 13 (fuel:=4) rfl ?_;go_wp2_with fail;refine(iB (HAW.o.ar.frm (S:=[]) (aF.drew1) aS aS) (next) (1)).mono ?_;rw[HX.o];rintro e w1 ⟨rfl,hA,hF⟩;have HF1:=aH (((ae.refl [ab,wb] W).drew1).trans hF);have H1:=aH (HAW.o.ar_ HF1.o hA);have j1:=H1.o.p HJ.o (t:=1) aO;have j2:=H1.o.p HJ.o (t:=2) aO;have jz:=H1.o.row.frozen;clear hA hF;go_wp2_with fail;refine af ⟨(HF1.o.mono (S':=[sb,ab,wb]) aS),?_⟩;refine aR (fuel:=1) [14,15,16] rfl (HF1.o.mono (S':=[sb,ab,wb]) aS) ?_;intro K hK;repeat (go_big_quiet_step (fail))
  refine wpQuiet_nil (hK _ ?_);clear hK K;refine aL 17 (fuel:=0) rfl ?_;go_wp2_with fail;refine af ⟨((HF1.o.mono (S':=[sb,ab,wb]) aS).set ⟨sb,j*4+1,none⟩ (.int .i64 (wrap64 (x - 1))) (.inl aS)),?_⟩;refine aN ?_;clear hne hz0 hz1 hz2 hz3;have HB:=aH (H1.o.put j (t:=1) aO (wrap64 (x - 1)));have HF2:=aH ((HFW.o.mono (S':=[sb,ab,wb]) aS).trans ((HF1.o.mono (S':=[sb,ab,wb]) aS).set ⟨sb,j*4+1,none⟩ (.int .i64 (wrap64 (x - 1))) (.inl aS)));clear H1 HF1 j1 j2 jz;generalize(w1.setCell (sb,j*4+1) (.int .i64 (wrap64 (x - 1))))=W2 at*;have hok:ah n (ac S j 1 (wrap64 (x - 1))) j 1=true:=by unfold ah;rw[bP HJ.o,Int.toNat_natCast];simp[ac,H0.o]
  have hT:=gZ HB.o j 1 2;unfold a8 at hT;rw[hok,if_pos rfl,Int.toNat_natCast] at hT;have HT:=aH hT;clear hT hok;go_wp2_with fail;refine HT.o.mono ?_;rintro e w3 ⟨rfl,hK,hF⟩;have HK3:=aH hK;have HF3:=aH (HF2.o.trans (hF.mono (S':=[sb,ab,wb]) aS))
 rotate_left
 focus
  refine aG (fun wx=>ae [ab,wb] W wx) ?_;refine aR (fuel:=2) [0,1,2,3,4,5,6,7,8,9,10,11,12,13,15,16,17,18,19,20,21,22,23] rfl aF.drew1 ?_;intro K hK;repeat (go_big_quiet_step (fail))
  refine wpQuiet_nil (hK _ ?_);clear hK K;refine aL 14 (fuel:=1) rfl ?_;go_wp2_with fail;refine(HPL.o _ (aF.drew1) _).mono ?_;rintro e Wp ⟨rfl,hFp⟩;have HFp:=aH (((aF.drew1:ae [] W W.drew)).trans hFp);clear hFp;go_wp2_with fail;refine af ⟨HFp.o.mono aS,?_⟩;refine aL 24 (fuel:=0) rfl ?_;go_wp2_with fail;refine(au (HAW.o.ar.frm (S:=[]) HFp.o aS aS) (b6 next parts (wrap64 (S j 1+1))) (wrap64 (S j 1+2))).mono ?_;rintro e w1 ⟨rfl,hA,hF⟩;have HF1:=aH ((HFp.o.mono (S':=[ab,wb]) aS).trans hF);have H1:=aH (HAW.o.ar_ HF1.o hA);have j1:=H1.o.p HJ.o (t:=1) aO;have j2:=H1.o.p HJ.o (t:=2) aO;have jz:=H1.o.row.frozen;clear hA hF;go_wp2_with fail;refine af ⟨HF1.o,?_⟩;refine aN ?_;clear hne hz0 hz1 hz2 hz3 hy1 hy2;have HB:=aH H1.o;have HF2:=aH ((HFW.o.mono (S':=[sb,ab,wb]) aS).trans (HF1.o.mono (S':=[sb,ab,wb]) aS));clear H1 HF1 j1 j2 jz;have hok:ah n (S) j 11=true:=by unfold ah;rw[bP HJ.o,Int.toNat_natCast];simp[ac,H0.o]
  have hT:=gZ HB.o j 11 0;unfold a8 at hT;rw[hok,if_pos rfl,Int.toNat_natCast] at hT;have HT:=aH hT;clear hT hok;go_wp2_with fail;refine HT.o.mono ?_;rintro e w3 ⟨rfl,hK,hF⟩;have HK3:=aH hK;have HF3:=aH (HF2.o.trans (hF.mono (S':=[sb,ab,wb]) aS))
 rotate_left;iterate 2
  refine(HC.o _ HFW.o).mono ?_;rintro e w1 ⟨rfl,hK,hF⟩;have HB:=aH hK;have HF2:=aH ((HFW.o.mono (S':=[sb,ab,wb]) aS).trans (hF.mono (S':=[sb,ab,wb]) aS));rotate_left
 all_goals
  clear hK hF
 rotate_left 2
 focus
  have hok:ah n (S) j 2=true:=by unfold ah;rw[bP HJ.o,Int.toNat_natCast];simp[ac,H0.o]
  have hT:=gZ HB.o j 2 10;unfold a8 at hT;rw[hok,if_pos rfl,Int.toNat_natCast] at hT;have HT:=aH hT;clear hT hok;go_wp2_with fail;refine HT.o.mono ?_;rintro e w3 ⟨rfl,hK,hF⟩;have HK3:=aH hK;have HF3:=aH (HF2.o.trans (hF.mono (S':=[sb,ab,wb]) aS));clear hK hF
 rotate_left;rotate_left;all_goals
  go_wp2;go_ret
 iterate 3
  exact⟨rfl,HK3.o,HF3.o⟩
 ·exact⟨rfl,HB.o,HF2.o⟩
def wy:= @And.left _ _ eY
def tF:= @And.left _ _ (@And.right _ _ eY)
def wH:= @And.left _ _ (@And.right _ _ (@And.right _ _ eY))
def tG:= @And.right _ _ (@And.right _ _ (@And.right _ _ eY))
theorem u4 (h:cH w lb sb ab wb next parts n A S) (i:Int):Calls prog 189 #[some lb,i] w fun e w'=>e= .returned (.bool (lP n next parts S A i))∧
 cH w' lb sb ab wb next parts n (iK n next parts S A i) (jO n next parts S A i)∧ae [sb,ab,wb] w w':=by
 cases hi:aZ n i with
 |false=>
  refine(oS h i (.inl hi)).mono fun e w' ⟨g1,g2⟩=>⟨?_,?_,g2.mono aS⟩
  ·unfold lP;rw[hi];exact g1
  ·unfold iK jO;rw[hi];exact h.frm g2 aS
 |true=>
  have hi':0≤i∧i<(n:Int):=by unfold aZ at hi;simpa using hi
  obtain⟨j,rfl⟩:=Int.eq_ofNat_of_zero_le hi'.1;have hj:j<n:=by omega
  unfold lP iK jO;rw[hi,Int.toNat_natCast];simp only[Bool.true_and,if_true];by_cases q1:S j 0=1
  ·simp only[q1,Int.reduceEq,if_true,if_false,decide_true,decide_false];exact wy h hj q1
  by_cases q2:S j 0=2
  ·by_cases c:A.get (b6 next parts (S j 1))=wrap64 (S j 1+1)
   ·simp only[q2,Int.reduceEq,if_true,if_false,if_pos c,decide_eq_true c];exact wH h hj q2 c
   ·simp only[q2,Int.reduceEq,if_true,if_false,if_neg c,decide_eq_false c];exact tG h hj q2 c
  by_cases q3:S j 0=11
  ·simp only[q3,Int.reduceEq,if_true,if_false,decide_true,decide_false];exact tF h hj q3
  ·simp only[if_neg q1,if_neg q2,if_neg q3,decide_eq_false q3];refine(oS h j (.inr ?_)).mono fun e w' ⟨g1,g2⟩=>⟨g1,h.frm g2 aS,g2.mono aS⟩
   rw[Int.toNat_natCast];exact⟨q1,q2,q3⟩
end
def qZ (tail:Nat) (A:AR) (S:Nat→Nat→Int) (j:Nat):AR×(Nat→Nat→Int)×Int:=
 if S j 0=1 then(A.store (cA tail ((j:Int)+1)) 0,S,2)
 else if S j 0=2 then(A.store (eq tail ((j:Int)+1)) 1,S,3)
 else if S j 0=3 then(A.swap tail ((j:Int)+1),ac S j 1 (A.get tail),if A.get tail=0 then 10 else 4)
 else if S j 0=4 then(A.store (cA tail (S j 1)) ((j:Int)+1),S,5)
 else(A.load (eq tail ((j:Int)+1)),S,if A.get (eq tail ((j:Int)+1))=0 then 10 else 5)
def jk (tail:Nat) (A:AR) (S:Nat→Nat→Int) (j:Nat):AR×(Nat→Nat→Int)×Int:=
 if S j 0=12 then(A.cas tail ((j:Int)+1) 0,S,if A.casOk tail ((j:Int)+1) then 0 else 13)
 else if S j 0=14 then(A.store (eq tail (S j 1)) 0,S,0)
 else(A.load (cA tail ((j:Int)+1)),ac S j 1 (A.get (cA tail ((j:Int)+1))),if A.get (cA tail ((j:Int)+1))=0 then(if S j 0=11 then 12 else 13) else 14)
def gq (n:Nat) (S:Nat→Nat→Int):Prop:=∀j,j<n→(0≤S j 0∧S j 0≤5)∨(10≤S j 0∧S j 0≤14)
def Bi (tail:Nat) (A:AR) (S:Nat→Nat→Int) (j:Nat):AR×(Nat→Nat→Int)×Int:=if S j 0<10 then qZ tail A S j else jk tail A S j
def jR (n:Nat) (S:Nat→Nat→Int) (i:Int):Bool:=aZ n i&& !(S i.toNat 0==0)&& !(S i.toNat 0==10)
def jM (n tail:Nat) (S:Nat→Nat→Int) (A:AR) (i:Int):AR:=if jR n S i then(Bi tail A S i.toNat).1 else A
def j7 (n tail:Nat) (S:Nat→Nat→Int) (A:AR) (i:Int):Nat→Nat→Int:=if jR n S i then ac (Bi tail A S i.toNat).2.1 i.toNat 0 (Bi tail A S i.toNat).2.2 else S
def nB (n tail:Nat) (S:Nat→Nat→Int) (A:AR) (i:Int):Bool:=jR n S i&&((Bi tail A S i.toNat).2.2==if S i.toNat 0<10 then 10 else 0)
section
variable{w w':World} {lb sb ab wb tail n:Nat} {A A':AR} {S S':Nat→Nat→Int}
theorem kg {W:World} {j:Nat} {x:AR×(Nat→Nat→Int)×Int} {res:Int} (e:x=(A',S',res))
 (h:Calls prog 203 #[some lb,.pointer (some ⟨sb,j*4,none⟩),((j:Int)+1:Int)] W fun e w'=>e= .returned res∧bD w' lb sb ab wb tail n A' S'∧ae [sb,ab,wb] W w'):
 Calls prog 203 #[some lb,.pointer (some ⟨sb,j*4,none⟩),((j:Int)+1:Int)] W fun e w'=>e= .returned x.2.2∧bD w' lb sb ab wb tail n x.1 x.2.1∧ae [sb,ab,wb] W w':=by
 subst e;exact h
theorem il {W:World} {j:Nat} {x:AR×(Nat→Nat→Int)×Int} {res:Int} (e:x=(A',S',res))
 (h:Calls prog 204 #[some lb,.pointer (some ⟨sb,j*4,none⟩),((j:Int)+1:Int)] W fun e w'=>e= .returned res∧bD w' lb sb ab wb tail n A' S'∧ae [sb,ab,wb] W w'):
 Calls prog 204 #[some lb,.pointer (some ⟨sb,j*4,none⟩),((j:Int)+1:Int)] W fun e w'=>e= .returned x.2.2∧bD w' lb sb ab wb tail n x.1 x.2.1∧ae [sb,ab,wb] W w':=by
 subst e;exact h
theorem Da (h:bD w lb sb ab wb tail n A S) {j:Nat} (hj:j<n) (hp:1≤S j 0∧S j 0≤5):
 Calls prog 203 #[some lb,.pointer (some ⟨sb,j*4,none⟩),((j:Int)+1:Int)] w fun e w'=>e= .returned (.int .i64 (qZ tail A S j).2.2)∧bD w' lb sb ab wb tail n (qZ tail A S j).1 (qZ tail A S j).2.1∧ae [sb,ab,wb] w w':=by
 rcases(by omega:S j 0=1∨S j 0=2∨S j 0=3∨S j 0=4∨S j 0=5) with q|q|q|q|q
 ·exact kg (by unfold qZ;rw[if_pos q]) (Is h hj q)
 ·exact kg (by unfold qZ;rw[if_neg aO,if_pos q]) (Jc h hj q)
 ·by_cases g:A.get tail=0
  ·exact kg (by unfold qZ;rw[if_neg aO,if_neg aO,if_pos q,if_pos g]) (Ee h hj q g)
  ·exact kg (by unfold qZ;rw[if_neg aO,if_neg aO,if_pos q,if_neg g]) (DA h hj q g)
 ·exact kg (by unfold qZ;rw[if_neg aO,if_neg aO,if_neg aO,if_pos q]) (I4 h hj q)
 ·by_cases g:A.get (eq tail ((j:Int)+1))=0
  ·exact kg (by unfold qZ;rw[if_neg aO,if_neg aO,if_neg aO,if_neg aO,if_pos g]) (DB h hj q g)
  ·exact kg (by unfold qZ;rw[if_neg aO,if_neg aO,if_neg aO,if_neg aO,if_neg g]) (ER h hj q g)
theorem Af (h:bD w lb sb ab wb tail n A S) {j:Nat} (hj:j<n) (hp:11≤S j 0∧S j 0≤14):
 Calls prog 204 #[some lb,.pointer (some ⟨sb,j*4,none⟩),((j:Int)+1:Int)] w fun e w'=>e= .returned (.int .i64 (jk tail A S j).2.2)∧bD w' lb sb ab wb tail n (jk tail A S j).1 (jk tail A S j).2.1∧ae [sb,ab,wb] w w':=by
 rcases(by omega:S j 0=11∨S j 0=12∨S j 0=13∨S j 0=14) with q|q|q|q
 ·by_cases g:A.get (cA tail ((j:Int)+1))=0
  ·exact il (by unfold jk;rw[if_neg aO,if_neg aO,if_pos g,if_pos q]) (Hs h hj q g)
  ·exact il (by unfold jk;rw[if_neg aO,if_neg aO,if_neg g]) (Ik h hj q g)
 ·cases g:A.casOk tail ((j:Int)+1) with
  |true=>exact il (by unfold jk;rw[if_pos q,if_pos g]) (IQ h hj q g)
  |false=>exact il (by unfold jk;rw[if_pos q,if_neg (by simp[g])]) (Ib h hj q g)
 ·by_cases g:A.get (cA tail ((j:Int)+1))=0
  ·exact il (by unfold jk;rw[if_neg aO,if_neg aO,if_pos g,if_neg aO]) (G9 h hj q g)
  ·exact il (by unfold jk;rw[if_neg aO,if_neg aO,if_neg g]) (Hg h hj q g)
 ·exact il (by unfold jk;rw[if_neg aO,if_pos q]) (JM h hj q)
theorem vq (h:bD w lb sb ab wb tail n A S) (hp:gq n S) (i:Int):Calls prog 199 #[some lb,i] w fun e w'=>e= .returned (.bool (nB n tail S A i))∧bD w' lb sb ab wb tail n (jM n tail S A i) (j7 n tail S A i)∧ae [sb,ab,wb] w w':=by
 unfold nB jM j7;cases hm:jR n S i with
 |false=>
  refine(DD h i ?_).mono fun e w' ⟨h1,h2⟩=>⟨by rw[h1];rfl,h.frm h2 aS,h2.mono aS⟩
  unfold jR at hm;cases g:aZ n i with
  |false=>exact .inl rfl
  |true=>
   rw[g] at hm;by_cases g0:S i.toNat 0=0
   ·exact .inr (.inl g0)
   ·by_cases g1:S i.toNat 0=10
    ·exact .inr (.inr g1)
    ·simp[g0,g1] at hm
 |true=>
  have hm':aZ n i=true∧¬S i.toNat 0=0∧¬S i.toNat 0=10:=by unfold jR at hm;simpa[and_assoc] using hm
  obtain⟨hi,g0,g1⟩:=hm';have hi':0≤i∧i<(n:Int):=by unfold aZ at hi;simpa using hi
  obtain⟨j,rfl⟩:=Int.eq_ofNat_of_zero_le hi'.1;have hj:j<n:=by omega
  have ej:((j:Int)).toNat=j:=by omega
  rw[ej] at g0 g1⊢;have hpj:=hp j hj;simp only[Bool.true_and,if_true];unfold Bi;by_cases q:S j 0<10
  ·rw[if_pos q,if_pos q];exact vT h hj rfl aO fun W hf=>Da (h.frm hf aS) hj aO
  ·rw[if_neg q,if_neg q];exact tj h hj rfl aO fun W hf=>Af (h.frm hf aS) hj aO
end
def FL (n tail:Nat) (S:Nat→Nat→Int) (A:AR) (i:Int):Bool:=ah n S i 10&&decide (A.get (cA tail ((i.toNat:Int)+1))=0)
def FU (n tail:Nat) (S:Nat→Nat→Int) (A:AR) (i:Int):AR:=if ah n S i 10 then A.load (cA tail ((i.toNat:Int)+1)) else A
section
variable{w w':World} {lb sb ab wb tail n:Nat} {A A':AR} {S:Nat→Nat→Int}
theorem sV (h:bD w lb sb ab wb tail n A S) {j:Nat} (hj:j<n) (hq:S j 0=10):Calls prog 194 #[some lb,j] w fun e w'=>e= .returned (.bool (A.get (cA tail ((j:Int)+1))==0))∧
 bD w' lb sb ab wb tail n (A.load (cA tail ((j:Int)+1))) S∧ae [ab,wb] w w':=by
 have HN:=aH h.ne;have HJ:=aH hj;have hn32:=h.n32;have htb:=h.tb;have hr:dq n S j= .agg #[(10:Int),(S j 1:Int),(S j 2:Int),(S j 3:Int)]:=by unfold dq;rw[bP hj,if_pos rfl,←hq];rfl
 have hS:=fun(W':World) (hf:ae [] w W')=>gN (h.frm hf aS) (j:Int);simp only[hr] at hS;have HS:=aH hS;have fd:=dR;have i1:(j:Int)<n:=by omega
 have HAW:=aH h;obtain⟨W,rfl⟩:∃W,W=w:=⟨_,rfl⟩
 have hne:=aW [ab,wb] W;have hz0:∀q:HW (fun wx=>ae [ab,wb] W wx),q.w.cell? (lb,0)=some (.pointer (some ⟨ab,0,none⟩)):=fun q=>(HAW.o.box.frm q.h aV).cell (i:=0) rfl;have hz1:∀q:HW (fun wx=>ae [ab,wb] W wx),q.w.cell? (lb,1)=some (.int .i64 tail):=fun q=>(HAW.o.box.frm q.h aV).cell (i:=1) rfl;have hz2:∀q:HW (fun wx=>ae [ab,wb] W wx),q.w.cell? (lb,2)=some (.slice (some ⟨sb,0,none⟩) n n):=fun q=>(HAW.o.box.frm q.h aV).cell (i:=2) rfl;have hy1:∀q:HW (fun wx=>ae [ab,wb] W wx),q.w.cell? (sb,j*4+1)=some (.int .i64 (S j 1)):=fun q=>(HAW.o.row.frm q.h aV).cell (ag n S HJ.o aO);have hy2:∀q:HW (fun wx=>ae [ab,wb] W wx),q.w.cell? (sb,j*4+2)=some (.int .i64 (S j 2)):=fun q=>(HAW.o.row.frm q.h aV).cell (ag n S HJ.o aO);have HNX:=aH (fun(W':World) (hf:ae [] W W') (y:Int)=>fH (HAW.o.frm hf aS) y);clear h hS hr hq hj;generalize hx:A.get (cA tail ((j:Int)+1))=x;have HX:=aH hx;clear hx;go_enter func194,ntmps194;go_wp2_with fail;refine aG (fun wx=>ae [ab,wb] W wx) ?_;refine aR (fuel:=16) [0,1] rfl aF.drew1 ?_;intro K hK;repeat (go_big_quiet_step (fail))
 refine wpQuiet_nil (hK _ ?_);clear hK K;refine aL 2 (fuel:=15) rfl ?_;go_wp2_with fail;refine(HS.o _ (aF.drew1)).mono ?_;rintro e Ws ⟨rfl,hFs⟩;have HFs:=aH (((aF.drew1:ae [] W W.drew)).trans hFs);clear hFs;go_wp2_with fail;refine af ⟨(HFs.o.mono aS),?_⟩;refine aR (fuel:=5) [3,4,5,6,7,8,9,10,11,12] rfl (HFs.o.mono aS) ?_;intro K hK;repeat (go_big_quiet_step (fail))
 refine wpQuiet_nil (hK _ ?_);clear hK K;refine aL 13 (fuel:=4) rfl ?_;go_wp2_with fail;refine(HNX.o _ HFs.o _).mono ?_;rintro e w' ⟨rfl,rfl⟩;go_wp2_with fail;refine af ⟨(HFs.o.mono aS),?_⟩;refine aL 14 (fuel:=3) rfl ?_;go_wp2_with fail;refine(bq (HAW.o.ar.frm (S:=[]) HFs.o aS aS) ((cA tail ((j:Int)+1)))).mono ?_;rw[HX.o];rintro e w1 ⟨rfl,hA,hF⟩;have HF1:=aH ((HFs.o.mono (S':=[ab,wb]) aS).trans hF);have H1:=aH (HAW.o.ar_ HF1.o hA);clear hA hF;go_wp2_with fail;refine af ⟨HF1.o,?_⟩;refine aR (fuel:=0) [15,16,17] rfl HF1.o ?_;intro K hK;repeat (go_big_quiet_step (fail))
 refine wpQuiet_nil (hK _ ?_);clear hK K;refine aN ?_;go_wp2;go_ret;exact⟨rfl,H1.o,HF1.o⟩
theorem wz (h:bD w lb sb ab wb tail n A S) (i:Int) (hq:ah n S i 10=false):Calls prog 194 #[some lb,i] w fun e w'=>e= .returned false∧ae [] w w':=by
 have hv:∃a b c p:Int,p≠10∧dq n S i= .agg #[p,a,b,c]:=by
  unfold dq;by_cases hh:aZ n i=true
  ·rw[if_pos hh];exact⟨_,_,_,_,by unfold ah at hq;rw[hh] at hq;simpa using hq,rfl⟩
  ·rw[if_neg hh];exact⟨0,0,0,0,by omega,rfl⟩
 obtain⟨a,b,c,p,p1,hr⟩:=hv;have hS:=fun(W':World) (hf:ae [] w W')=>gN (h.frm hf aS) i;simp only[hr] at hS;have HS:=aH hS;have fd:=dR;have d1:(p==10)=false:=by simpa using p1
 obtain⟨W,rfl⟩:∃W,W=w:=⟨_,rfl⟩
 have hne:=aW [] W;clear h hS hr hq p1;go_enter func194,ntmps194;go_wp2_with fail;refine aG (fun wx=>ae [] W wx) ?_;refine aR (fuel:=16) [0,1] rfl aF.drew1 ?_;intro K hK;repeat (go_big_quiet_step (fail))
 refine wpQuiet_nil (hK _ ?_);clear hK K;refine aL 2 (fuel:=15) rfl ?_;go_wp2_with fail;refine(HS.o _ (aF.drew1)).mono ?_;rintro e Ws ⟨rfl,hFs⟩;have HFs:=aH (((aF.drew1:ae [] W W.drew)).trans hFs);clear hFs;go_wp2_with fail;refine af ⟨HFs.o,?_⟩;refine aR (fuel:=5) [3,4,5,6,7,8,9,10,11,12] rfl HFs.o ?_;intro K hK;repeat (go_big_quiet_step (fail))
 refine wpQuiet_nil (hK _ ?_);clear hK K;refine aL 13 (fuel:=4) rfl ?_;go_wp2_with fail;refine af ⟨HFs.o,?_⟩;refine aL 14 (fuel:=3) rfl ?_;go_wp2_with fail;refine af ⟨HFs.o,?_⟩;refine aR (fuel:=0) [15,16,17] rfl HFs.o ?_;intro K hK;repeat (go_big_quiet_step (fail))
 refine wpQuiet_nil (hK _ ?_);clear hK K;refine aN ?_;go_wp2;go_ret;exact⟨rfl,HFs.o⟩
theorem sS (h:bD w lb sb ab wb tail n A S) (i:Int):Calls prog 194 #[some lb,i] w fun e w'=>e= .returned (.bool (FL n tail S A i))∧
 bD w' lb sb ab wb tail n (FU n tail S A i) S∧ae [sb,ab,wb] w w':=by
 unfold FL FU;cases hq:ah n S i 10 with
 |false=>
  simp only[Bool.false_and,Bool.false_eq_true,if_false];exact(wz h i hq).mono fun e w' ⟨h1,h2⟩=>⟨h1,h.frm h2 aS,h2.mono aS⟩
 |true=>
  simp only[Bool.true_and,if_true];have hq':aZ n i=true∧S i.toNat 0=10:=by unfold ah at hq;simpa using hq
  have hi':0≤i∧i<(n:Int):=by have:=hq'.1;unfold aZ at this;simpa using this
  obtain⟨j,rfl⟩:=Int.eq_ofNat_of_zero_le hi'.1;rw[Int.toNat_natCast] at hq'⊢;refine(sV h (by omega:j<n) hq'.2).mono fun e w' ⟨h1,h2,h3⟩=>⟨?_,h2,h3.mono aS⟩
  rw[h1];exact bH (by simp[BEq.beq])
end
def cv (b n:Nat) (A:AR):CV:=⟨A.get b,fun j=>if j<n then A.get ((b:Int)+2*j+1) else 0,fun j=>if j<n then A.get ((b:Int)+2*j+2) else 0⟩
theorem BG (S:Nat→Nat→Int) (j t:Nat):ac S j t (S j t)=S:=by
 funext i u
 rw[bw]
 split
 ·rename_i h;rw[h.1,h.2]
 ·rfl
section
variable{b n:Nat} {S:Nat→Nat→Int} {A B:AR} {Q:List Nat} {o:Option Nat}
theorem eA (hg:∀i:Int,(b:Int)≤i→i<(b:Int)+((1+2*n:Nat):Int)→B.get i=A.get i):cv b n B=cv b n A:=by
 unfold cv;have e1:B.get b=A.get b:=hg _ aO aO;have e2:(fun j:Nat=>if j<n then B.get ((b:Int)+2*j+1) else 0)=fun j:Nat=>if j<n then A.get ((b:Int)+2*j+1) else 0:=by
  funext j
  split
  ·exact hg _ aO aO
  ·rfl
 have e3:(fun j:Nat=>if j<n then B.get ((b:Int)+2*j+2) else 0)=fun j:Nat=>if j<n then A.get ((b:Int)+2*j+2) else 0:=by
  funext j
  split
  ·exact hg _ aO aO
  ·rfl
 rw[e1,e2,e3]
theorem mZ {p:Nat} {v:Int} (hp:p<n) (hg:∀k,B.get k=if k=(b:Int)+2*p+1 then v else A.get k):(cv b n B).tl=(cv b n A).tl∧(cv b n B).nx=AT (cv b n A).nx p v∧(cv b n B).wt=(cv b n A).wt:=by
 refine⟨?_,?_,?_⟩
 ·show B.get b=A.get b;rw[hg,if_neg aO]
 ·funext j
  unfold AT;by_cases e:j=p
  ·subst e;rw[if_pos rfl];show(if j<n then _ else _)=_;rw[if_pos hp,hg,if_pos rfl]
  ·rw[if_neg e];show(if j<n then _ else _)=if j<n then _ else _
   split
   ·rw[hg,if_neg aO]
   ·rfl
 ·funext j
  show(if j<n then _ else _)=if j<n then _ else _
  split
  ·rw[hg,if_neg aO]
  ·rfl
theorem kL {p:Nat} {v:Int} (hp:p<n) (hg:∀k,B.get k=if k=(b:Int)+2*p+2 then v else A.get k):(cv b n B).tl=(cv b n A).tl∧(cv b n B).nx=(cv b n A).nx∧(cv b n B).wt=AT (cv b n A).wt p v:=by
 refine⟨?_,?_,?_⟩
 ·show B.get b=A.get b;rw[hg,if_neg aO]
 ·funext j
  show(if j<n then _ else _)=if j<n then _ else _
  split
  ·rw[hg,if_neg aO]
  ·rfl
 ·funext j
  unfold AT;by_cases e:j=p
  ·subst e;rw[if_pos rfl];show(if j<n then _ else _)=_;rw[if_pos hp,hg,if_pos rfl]
  ·rw[if_neg e];show(if j<n then _ else _)=if j<n then _ else _
   split
   ·rw[hg,if_neg aO]
   ·rfl
theorem nj {v:Int} (hg:∀k,B.get k=if k=(b:Int) then v else A.get k):(cv b n B).tl=v∧(cv b n B).nx=(cv b n A).nx∧(cv b n B).wt=(cv b n A).wt:=by
 refine⟨?_,?_,?_⟩
 ·show B.get b=v;rw[hg,if_pos rfl]
 ·funext j
  show(if j<n then _ else _)=if j<n then _ else _
  split
  ·rw[hg,if_neg aO]
  ·rfl
 ·funext j
  show(if j<n then _ else _)=if j<n then _ else _
  split
  ·rw[hg,if_neg aO]
  ·rfl
theorem uZ (hb:b≤4096) (hn:n≤32) {p:Nat} (hp:p<n):cA b ((p:Int)+1)=(b:Int)+2*p+1:=by
 unfold cA;rw[cW (x:=2*((p:Int)+1)) aO,cW (x:=(b:Int)+2*((p:Int)+1)) aO,cW aO];omega
theorem yx (hb:b≤4096) (hn:n≤32) {p:Nat} (hp:p<n):eq b ((p:Int)+1)=(b:Int)+2*p+2:=by
 unfold eq;rw[cW (x:=2*((p:Int)+1)) aO,cW aO];omega
def CG (b n:Nat) (S:Nat→Nat→Int) (A:AR) (j:Nat) (x:AR×(Nat→Nat→Int)×Int):Prop:=
 (∃Q' o',MC n (cv b n x.1) (ac x.2.1 j 0 x.2.2) Q' o')∧jg b (1+2*n) A x.1∧x.1.ops=A.ops+1∧(∀k,k≠j→x.2.1 k 0=S k 0)
theorem CG.in_ (h:MC n (cv b n A) S Q o) (hf:A.Fit) (hb:1≤b) (hn:n≤32) (hr:b+(1+2*n)≤A.taken+1) {j:Nat} (hj:j<n) (h0:1≤S j 0∧S j 0≤5):CG b n S A j (qZ b A S j)∧((1≤(qZ b A S j).2.2∧(qZ b A S j).2.2<10)∨(qZ b A S j).2.2=10):=by
 have hl2:=hf.1;have hl3:=hf.2.1;have hb':b≤4096:=by omega
 unfold CG qZ;rcases(by omega:S j 0=1∨S j 0=2∨S j 0=3∨S j 0=4∨S j 0=5) with q|q|q|q|q
 ·rw[if_pos q,uZ hb' hn hj];dsimp only;have i1:A.has ((b:Int)+2*j+1)=true:=bA.2 aO;obtain⟨o1,o2⟩:=cM (b:=b) (m:=1+2*n) (v:=0) hf i1 aO aO;obtain⟨c1,c2,c3⟩:=mZ (B:=A.store ((b:Int)+2*j+1) 0) (v:=0) hj (fun k=>ch hf.1 i1);refine⟨⟨⟨Q,o,h.early hj aO aO (fun k hk=>by rw[c2,fu _ _ hk]) (fun k hk=>by rw[c3]) c1 (fun _=>by rw[c2,kf]) aO⟩,o1,o2,fun _ _=>by simp⟩,.inl ⟨by omega,by omega⟩⟩
 ·rw[if_neg aO,if_pos q,yx hb' hn hj];dsimp only;have i1:A.has ((b:Int)+2*j+2)=true:=bA.2 aO;obtain⟨o1,o2⟩:=cM (b:=b) (m:=1+2*n) (v:=1) hf i1 aO aO;obtain⟨c1,c2,c3⟩:=kL (B:=A.store ((b:Int)+2*j+2) 1) (v:=1) hj (fun k=>ch hf.1 i1);refine⟨⟨⟨Q,o,h.early hj aO aO (fun k hk=>by rw[c2]) (fun k hk=>by rw[c3,fu _ _ hk]) c1 aO (fun _=>⟨by rw[c2];exact h.p2 j hj q,by rw[c3,kf]⟩)⟩,o1,o2,fun _ _=>by simp⟩,.inl ⟨by omega,by omega⟩⟩
 ·rw[if_neg aO,if_neg aO,if_pos q];dsimp only;have i1:A.has (b:Int)=true:=bA.2 aO;obtain⟨o1,o2⟩:=qd (b:=b) (m:=1+2*n) (v:=(j:Int)+1) hf i1 aO aO;obtain⟨c1,c2,c3⟩:=nj (n:=n) (B:=A.swap b ((j:Int)+1)) (v:=(j:Int)+1) (fun k=>kW hf.1 i1);obtain⟨d1,d2⟩:=h.door hj q c1 c2 c3;have ho:∀k,k≠j→ac S j 1 (A.get b) k 0=S k 0:=fun k hk=>by rw[bw,if_neg (by simp[hk])]
  by_cases z:A.get b=0
  ·simp only[if_pos z];exact⟨⟨⟨_,_,d1 z⟩,o1,o2,ho⟩,.inr aS⟩
  ·simp only[if_neg z];exact⟨⟨⟨_,_,d2 z⟩,o1,o2,ho⟩,.inl ⟨by omega,by omega⟩⟩
 ·rw[if_neg aO,if_neg aO,if_neg aO,if_pos q];obtain⟨p,hp,e,hl⟩:=h.link hj q;rw[e,uZ hb' hn hp];dsimp only;have i1:A.has ((b:Int)+2*p+1)=true:=bA.2 aO;obtain⟨o1,o2⟩:=cM (b:=b) (m:=1+2*n) (v:=(j:Int)+1) hf i1 aO aO;obtain⟨c1,c2,c3⟩:=mZ (B:=A.store ((b:Int)+2*p+1) ((j:Int)+1)) (v:=(j:Int)+1) hp (fun k=>ch hf.1 i1);exact⟨⟨⟨Q,o,hl _ c1 c2 c3⟩,o1,o2,fun _ _=>by simp⟩,.inl ⟨by omega,by omega⟩⟩
 ·rw[if_neg aO,if_neg aO,if_neg aO,if_neg aO,yx hb' hn hj];dsimp only;have i1:A.has ((b:Int)+2*j+2)=true:=bA.2 aO;obtain⟨o1,o2⟩:=gc (b:=b) (m:=1+2*n) hf i1 aO aO;have c:cv b n (A.load ((b:Int)+2*j+2))=cv b n A:=eA fun i _ _=>cB;have ew:(cv b n A).wt j=A.get ((b:Int)+2*j+2):=if_pos hj;by_cases z:A.get ((b:Int)+2*j+2)=0
  ·simp only[if_pos z];refine⟨⟨⟨Q,some j,?_⟩,o1,o2,fun _ _=>by simp⟩,.inr aS⟩;show MC n (cv b n (A.load ((b:Int)+2*j+2))) _ _ _;rw[c];exact(h.enter hj q (by rw[ew];exact z)).2 _ rfl rfl rfl
  ·simp only[if_neg z];refine⟨⟨⟨Q,o,?_⟩,o1,o2,fun _ _=>by simp⟩,.inl ⟨by omega,by omega⟩⟩;show MC n (cv b n (A.load ((b:Int)+2*j+2))) (ac S j 0 5) _ _;rw[c,←q,BG];exact h
theorem CG.out_ (h:MC n (cv b n A) S Q o) (hf:A.Fit) (hb:1≤b) (hn:n≤32) (hr:b+(1+2*n)≤A.taken+1) {j:Nat} (hj:j<n) (h0:11≤S j 0∧S j 0≤14):CG b n S A j (jk b A S j)∧((10<(jk b A S j).2.2)∨(jk b A S j).2.2=0):=by
 have hl2:=hf.1;have hl3:=hf.2.1;have hb':b≤4096:=by omega
 obtain rfl:=h.ownr j hj aO;obtain⟨⟨r,rfl⟩,hph⟩:=h.own2 j rfl;have i1:A.has ((b:Int)+2*j+1)=true:=bA.2 aO;have en:(cv b n A).nx j=A.get ((b:Int)+2*j+1):=if_pos hj;have c:cv b n (A.load ((b:Int)+2*j+1))=cv b n A:=eA fun i _ _=>cB;have hs:∀(v pc:Int),(∀k,k≠j→∀t,ac (ac S j 1 v) j 0 pc k t=S k t)∧ac (ac S j 1 v) j 0 pc j 0=pc∧ac (ac S j 1 v) j 0 pc j 1=v:=fun v pc=>⟨fun k hk t=>by rw[bw,bw,if_neg (by simp[hk]),if_neg (by simp[hk])],by rw[bw,if_pos aS],by rw[bw,if_neg aS,bw,if_pos aS]⟩
 have ho:∀v k,k≠j→ac S j 1 v k 0=S k 0:=fun v k hk=>by rw[bw,if_neg (by simp[hk])]
 have hload:∀pc:Int,(pc=12∨(pc=13∧(j::r)≠[j]))→CG b n S A j (A.load ((b:Int)+2*j+1),ac S j 1 (A.get ((b:Int)+2*j+1)),if A.get ((b:Int)+2*j+1)=0 then pc else 14)∧(10<(if A.get ((b:Int)+2*j+1)=0 then pc else 14)∨(if A.get ((b:Int)+2*j+1)=0 then pc else 14)=0):=by
  intro pc hpc;unfold CG;dsimp only;obtain⟨o1,o2⟩:=gc (b:=b) (m:=1+2*n) hf i1 aO aO;by_cases z:A.get ((b:Int)+2*j+1)=0
  ·simp only[if_pos z];refine⟨⟨⟨j::r,some j,?_⟩,o1,o2,ho _⟩,.inl aO⟩;show MC n (cv b n (A.load ((b:Int)+2*j+1))) _ _ _;rw[c];obtain⟨s1,s2,s3⟩:=hs (A.get ((b:Int)+2*j+1)) pc;refine h.own s1 ?_ rfl rfl rfl;rcases hpc with e|⟨e,e2⟩
   ·exact .inl (.inr (.inr (by rw[←e];exact s2)))
   ·exact .inr (.inl ⟨by rw[←e];exact s2,e2⟩)
  ·simp only[if_neg z];refine⟨⟨⟨j::r,some j,?_⟩,o1,o2,ho _⟩,.inl aO⟩;show MC n (cv b n (A.load ((b:Int)+2*j+1))) _ _ _;rw[c];obtain⟨s1,s2,s3⟩:=hs (A.get ((b:Int)+2*j+1)) 14;obtain⟨q,r',e,en2,e5⟩:=h.ql.second (by rw[en];exact z);have hqj:q≠j:=fun e'=>by subst e';omega
   exact h.own s1 (.inr (.inr ⟨s2,q,r',by rw[e],by rw[s3,←en];exact en2,by rw[s1 q hqj];exact e5⟩)) rfl rfl rfl
 unfold CG jk;rcases(by omega:S j 0=11∨S j 0=12∨S j 0=13∨S j 0=14) with q|q|q|q
 ·rw[if_neg aO,if_neg aO,uZ hb' hn hj];simp only[if_pos q];have:=hload 12 (.inl rfl);unfold CG at this;exact this
 ·rw[if_pos q];dsimp only;have i0:A.has (b:Int)=true:=bA.2 aO;obtain⟨o1,o2⟩:=tM (b:=b) (m:=1+2*n) (o:=(j:Int)+1) (v:=0) hf i0 aO aO;have g:=fun k=>ni (A:=A) (i:=(b:Int)) (o:=(j:Int)+1) (v:=0) (j:=k) hf.1 i0;cases z:A.casOk b ((j:Int)+1) with
  |true=>
   have z':=(mp i0).1 z;simp only[if_true];have er:r=[]:=uB h.nd (h.tl.symm.trans z');subst er;obtain⟨c1,c2,c3⟩:=nj (b:=b) (n:=n) (A:=A) (B:=A.cas b ((j:Int)+1) 0) (v:=0) (fun k=>by rw[g];by_cases e:k=b<;>simp[e,z']);exact⟨⟨⟨[],none,h.quit c1 c2 (fun k _=>by rw[c3]) (fun a r' e=>by simp at e)⟩,o1,o2,fun _ _=>by simp⟩,.inr aS⟩
  |false=>
   have z':A.get b≠(j:Int)+1:=fun e=>by rw[(mp i0).2 e] at z;simp at z
   simp only[Bool.false_eq_true,if_false];have c':cv b n (A.cas b ((j:Int)+1) 0)=cv b n A:=eA fun i _ _=>by rw[g,if_neg (fun e=>z' e.2)]
   refine⟨⟨⟨j::r,some j,?_⟩,o1,o2,fun _ _=>by simp⟩,.inl aO⟩;show MC n (cv b n (A.cas b ((j:Int)+1) 0)) _ _ _;rw[c'];have s1:∀k,k≠j→∀t,ac S j 0 13 k t=S k t:=fun k hk t=>by rw[bw,if_neg (by simp[hk])]
   refine h.own s1 (.inr (.inl ⟨by rw[bw,if_pos aS],fun e=>?_⟩)) rfl rfl rfl;have:=h.tl;rw[e] at this;exact z' this
 ·have hne:(j::r)≠[j]:=by
   rcases hph with h1|⟨_,h2⟩|⟨h1,_⟩
   ·omega
   ·exact h2
   ·omega
  rw[if_neg aO,if_neg aO,uZ hb' hn hj];simp only[if_neg (show¬S j 0=11 by omega)];have:=hload 13 (.inr ⟨rfl,hne⟩);unfold CG at this;exact this
 ·rw[if_neg aO,if_pos q];obtain⟨p,r',e,e1,e5⟩:∃q r',r=q::r'∧S j 1=(q:Int)+1∧S q 0=5:=by
   rcases hph with h1|⟨h1,_⟩|⟨_,p,r',e,e1,e5⟩
   ·omega
   ·omega
   ·exact⟨p,r',(List.cons.inj e).2,e1,e5⟩
  subst e;have hp:p<n:=h.lt p aS;rw[e1,yx hb' hn hp];dsimp only;have i2:A.has ((b:Int)+2*p+2)=true:=bA.2 aO;obtain⟨o1,o2⟩:=cM (b:=b) (m:=1+2*n) (v:=0) hf i2 aO aO;obtain⟨c1,c2,c3⟩:=kL (B:=A.store ((b:Int)+2*p+2) 0) (v:=0) hp (fun k=>ch hf.1 i2);refine⟨⟨⟨p::r',none,h.quit ?_ c2 (fun k hk=>?_) (fun a r'' e=>?_)⟩,o1,o2,fun _ _=>by simp⟩,.inr aS⟩
  ·rw[c1];exact h.tl
  ·rw[c3,fu _ _ (by simpa using hk)]
  ·obtain⟨rfl,rfl⟩:=List.cons.inj e;exact⟨e5,by rw[c3,kf]⟩
theorem MC.step (h:MC n (cv b n A) S Q o) (hf:A.Fit) (hl:A.ops<1000000000) (hb:1≤b) (hn:n≤32) (hr:b+(1+2*n)≤A.taken+1) {j:Nat} (hj:j<n):
 (∃Q' o',MC n (cv b n (jM n b S A j)) (j7 n b S A j) Q' o')∧jg b (1+2*n) A (jM n b S A j)∧(S j 0=1→(jM n b S A j).ops=A.ops+1)∧lC S (j7 n b S A j) j (nB n b S A j):=by
 have hpc:=h.pcs j hj;unfold jM j7 nB jR;rw[bP hj];simp only[Bool.true_and,Int.toNat_natCast];by_cases q0:S j 0=0
 ·have e:(!(S j 0==0)&& !(S j 0==10))=false:=by rw[q0];rfl
  rw[e];simp only[Bool.false_eq_true,if_false,Bool.false_and];exact⟨⟨Q,o,h⟩,jg.refl _ _ _,by omega,⟨fun _ _=>rfl,by omega,by omega,fun _=>⟨rfl,rfl⟩⟩⟩
 by_cases q1:S j 0=10
 ·have e:(!(S j 0==0)&& !(S j 0==10))=false:=by rw[q1];rfl
  rw[e];simp only[Bool.false_eq_true,if_false,Bool.false_and];exact⟨⟨Q,o,h⟩,jg.refl _ _ _,by omega,⟨fun _ _=>rfl,by omega,by omega,fun _=>⟨rfl,rfl⟩⟩⟩
 have e:(!(S j 0==0)&& !(S j 0==10))=true:=by simp[q0,q1]
 rw[e];simp only[if_true,Bool.true_and];unfold Bi;by_cases q:S j 0<10
 ·simp only[if_pos q];obtain⟨⟨g1,g2,g3,g4⟩,g5⟩:=CG.in_ h hf hb hn hr hj aO;refine⟨g1,g2,fun _=>g3,⟨fun k hk=>?_,fun _ _=>?_,by omega,by omega⟩⟩
  ·rw[bw,if_neg (by simp[hk])];exact g4 k hk
  ·rw[bw,if_pos aS];exact⟨by omega,by omega,by simp⟩
 ·simp only[if_neg q];obtain⟨⟨g1,g2,g3,g4⟩,g5⟩:=CG.out_ h hf hb hn hr hj aO;refine⟨g1,g2,by omega,⟨fun k hk=>?_,by omega,fun _=>?_,by omega⟩⟩
  ·rw[bw,if_neg (by simp[hk])];exact g4 k hk
  ·rw[bw,if_pos aS];exact⟨by omega,by simp⟩
theorem MC.ask (h:MC n (cv b n A) S Q o) {j:Nat} (hj:j<n) (h0:S j 0=0):MC n (cv b n A) (ac S j 0 1) Q o:=
 h.early hj aO aO (fun _ _=>rfl) (fun _ _=>rfl) rfl aO aO
theorem MC.leave (h:MC n (cv b n A) S Q o) {j:Nat} (hj:j<n) (h0:S j 0=10):MC n (cv b n A) (ac S j 0 11) Q o:=by
 obtain rfl:=h.ownr j hj aO;exact h.own (fun k hk t=>by rw[bw,if_neg (by simp[hk])]) (.inl (.inr (.inl (by rw[bw,if_pos aS])))) rfl rfl rfl
theorem MC.zero {w:CV} (h0:w.tl=0):MC n w (fun _ _=>0) [] none:=
 {nd:=by simp,lt:=by simp,mem:=fun _ _ h=>by simp at h,idle:=by simp,ownr:=fun _ _ h=>by simp at h,own2:=fun _ h=>by simp at h,non:=fun _ _ _ h=>by simp at h,pcs:=fun _ _=>.inl aS,tl:=h0,ql:=trivial,w1:=by simp,p2:=fun _ _ h=>by simp at h,p3:=fun _ _ h=>by simp at h}
end
end Go.Proofs.YteijjhahgabalaaGreat
