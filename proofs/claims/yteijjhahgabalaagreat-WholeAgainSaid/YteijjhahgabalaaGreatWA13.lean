/- The contracts of package tas. -/
import Derived.Deep.RegionHeld3
import Derived.Deep.RegionWith
import Derived.Deep.DeepCutAuto
import Derived.Deep.CutBlock
import Derived.Test.YteijjhahgabalaaGreatWA06
import Derived.Test.YteijjhahgabalaaGreatWA03
import Derived.Test.YteijjhahgabalaaGreatWA09
set_option maxRecDepth 100000
set_option maxHeartbeats 8000000
set_option linter.all false
namespace Go.Proofs.YteijjhahgabalaaGreat
open Go.RowKit
open Tryz
def cq (n:Nat) (S:Nat→Nat→Int):List Value:=(List.range (4*n)).map fun j=>Value.int .i64 (S (j/4) (j%4))
def ac (S:Nat→Nat→Int) (i t:Nat) (v:Int):Nat→Nat→Int:=fun i' t'=>if i'=i∧t'=t then v else S i' t'
theorem dN (n:Nat) (S:Nat→Nat→Int) {i t:Nat} (hi:i<n) (ht:t<4):(cq n S)[4*i+t]? =some (.int .i64 (S i t)):=by
 unfold cq;rw[List.getElem?_map,List.getElem?_range aO];simp only[Option.map_some];rw[show(4*i+t)/4=i from by omega,show(4*i+t)%4=t from by omega]
theorem qE (n:Nat) (S:Nat→Nat→Int) {i t:Nat} (ht:t<4) (v:Int):(cq n S).set (4*i+t) (.int .i64 v)=cq n (ac S i t v):=by
 apply List.ext_getElem?;intro j;rw[List.getElem?_set];by_cases h:4*i+t=j
 ·subst h;by_cases h8:4*i+t<4*n
  ·rw[if_pos rfl,if_pos (by unfold cq;simpa using h8)];unfold cq;rw[List.getElem?_map,List.getElem?_range h8];simp only[Option.map_some];rw[show(4*i+t)/4=i from by omega,show(4*i+t)%4=t from by omega];unfold ac;simp
  ·rw[if_pos rfl,if_neg (by unfold cq;simpa using h8),List.getElem?_eq_none (by unfold cq;simp;omega)]
 ·rw[if_neg h];unfold cq;by_cases h8:j<4*n
  ·rw[List.getElem?_map,List.getElem?_map,List.getElem?_range h8];simp only[Option.map_some];unfold ac;rw[if_neg aO]
  ·rw[List.getElem?_eq_none aQ,List.getElem?_eq_none aQ]
structure dO (w:World) (lb ab sb word n:Nat) (most:Int) (S:Nat→Nat→Int):Prop where
 box:am w lb [some ab,word,most,.slice (some ⟨sb,0,none⟩) n n] 144
 row:am w sb (cq n S) 138
 ne:lb≠sb
 n1:1≤n
 n32:n≤32
 m1:1≤most
 m2:most≤1024
theorem dO.frm {w w':World} {lb ab sb word n:Nat} {most:Int} {S:Nat→Nat→Int} (h:dO w lb ab sb word n most S) {Z:List Nat} (hf:ae Z w w') (h1:lb∉Z) (h2:sb∉Z):dO w' lb ab sb word n most S:=
 {h with box:=h.box.frm hf h1,row:=h.row.frm hf h2}
def aZ (n:Nat) (i:Int):Bool:=decide (0≤i∧i<(n:Int))
theorem dO.put {w:World} {lb ab sb word n:Nat} {most:Int} {S:Nat→Nat→Int} (h:dO w lb ab sb word n most S) (i:Nat) {t:Nat} (ht:t<4) (v:Int):
 dO (w.setCell (sb,4*i+t) (.int .i64 v)) lb ab sb word n most (ac S i t v):=by
 have hr:=h.row.set (4*i+t) (.int .i64 v);rw[qE n S ht v] at hr;exact{h with box:=h.box.other _ _ h.ne,row:=hr}
section
variable{w:World} {lb ab wb sb word n:Nat} {most:Int} {S:Nat→Nat→Int} {A:AR}
theorem ov (h:dO w lb ab sb word n most S):Calls prog 161 #[some lb] w fun e w'=>e= .returned n∧w=w':=by
 have c3:=h.box.cell (i:=3) rfl;clear h;go_enter func161,ntmps161;go_wp2;go_ret;exact⟨rfl,rfl⟩
theorem kF (h:dO w lb ab sb word n most S) {i:Int} (hi:aZ n i=false):Calls prog 164 #[some lb,i] w fun e w'=>e= .returned (.pointer none)∧w=w':=by
 have HS:=aH (ov h);clear h;by_cases hneg:i<0
 ·have d1:decide (i<0)=true:=by simpa using hneg
  clear hi;go_enter func164,ntmps164;go_wp2;go_ret;exact⟨rfl,rfl⟩
 ·have d1:decide (i<0)=false:=by simpa using hneg
  have d2:decide ((n:Int)≤i)=true:=by unfold aZ at hi;simp at hi;simp;omega
  clear hi;go_enter func164,ntmps164;go_wp2_with fail;refine HS.o.mono ?_;rintro e w' ⟨rfl,rfl⟩;go_wp2;go_ret;exact⟨rfl,rfl⟩
theorem eK (h:dO w lb ab sb word n most S) {i:Nat} (hi:i<n):Calls prog 164 #[some lb,i] w fun e w'=>e= .returned (.pointer (some ⟨sb,4*i,none⟩))∧w=w':=by
 have HS:=aH (ov h);have c3:=h.box.cell (i:=3) rfl;have hn:=h.n32;clear h;have d1:decide ((i:Int)<0)=false:=by simp
 have d2:decide ((n:Int)≤i)=false:=by simp;omega
 have d3:decide (n≤i)=false:=by simp;omega
 have l1:(i:Int)<n:=by omega
 have e1:i*4=4*i:=by omega
 go_enter func164,ntmps164;go_wp2_with fail;refine HS.o.mono ?_;rintro e w' ⟨rfl,rfl⟩;go_wp2;go_ret;exact⟨by simp[e1],rfl⟩
def dq (n:Nat) (S:Nat→Nat→Int) (i:Int):Value:=if aZ n i then .agg #[(S i.toNat 0:Int),(S i.toNat 1:Int),(S i.toNat 2:Int),(S i.toNat 3:Int)] else .agg #[(0:Int),(0:Int),(0:Int),(0:Int)]
theorem p6 (h:dO w lb ab sb word n most S) (i:Int):Calls prog 162 #[some lb,i] w fun e w'=>e= .returned (dq n S i)∧ae [] w w':=by
 cases hi:aZ n i with
 |false=>
  have HS:=aH (fun(W:World) (hf:ae [] w W)=>kF (h.frm hf aS aS) hi);have hr:dq n S i= .agg #[(0:Int),(0:Int),(0:Int),(0:Int)]:=by unfold dq;rw[hi];rfl
  rw[hr];clear h hr hi;go_enter func162,ntmps162;go_wp2_with fail;refine(HS.o _ (aF.alloc _)).mono ?_;rintro e w' ⟨rfl,rfl⟩;go_wp2_with fail;refine bodyPost_ret (v:=.agg #[(0:Int),(0:Int),(0:Int),(0:Int)]) (by simp[results,results162,go_sem]) rfl ⟨rfl,aF.alloc _⟩
 |true=>
  have hi':0≤i∧i<(n:Int):=by unfold aZ at hi;simpa using hi
  obtain⟨j,rfl⟩:=Int.eq_ofNat_of_zero_le hi'.1;have hj:j<n:=by omega
  have HS:=aH (fun(W:World) (hf:ae [] w W)=>eK (h.frm hf aS aS) hj);have hr:dq n S j= .agg #[(S j 0:Int),(S j 1:Int),(S j 2:Int),(S j 3:Int)]:=by unfold dq;rw[hi];rfl
  rw[hr];have hkk:∀wx,ae [] w wx→wx.cell? (sb,4*j)=some (.int .i64 (S j 0))∧wx.cell? (sb,4*j+1)=some (.int .i64 (S j 1))∧wx.cell? (sb,4*j+2)=some (.int .i64 (S j 2))∧wx.cell? (sb,4*j+3)=some (.int .i64 (S j 3)):=fun wx hf=>
   ⟨(h.row.frm hf aS).cell (dN n S (t:=0) hj aO),(h.row.frm hf aS).cell (dN n S (t:=1) hj aO),(h.row.frm hf aS).cell (dN n S (t:=2) hj aO),(h.row.frm hf aS).cell (dN n S (t:=3) hj aO)⟩
  have KK:=aH hkk;clear h hr hi hkk hi';go_enter func162,ntmps162;go_wp2_with fail;refine(HS.o _ (aF.alloc _)).mono ?_;rintro e w' ⟨rfl,rfl⟩;obtain⟨c0,c1,c2,c3⟩:=KK.o _ ((ae.refl [] w).alloc (.cells #[(0:Int),(0:Int),(0:Int),(0:Int)] 138));go_wp2_with fail
  trace_state
  refine bodyPost_ret (v:=.agg #[(S j 0:Int),(S j 1:Int),(S j 2:Int),(S j 3:Int)]) (by simp[results,results162,go_sem]) rfl ⟨rfl,?_⟩;exact aF.alloc _
end
def fL (n:Nat) (S:Nat→Nat→Int) (i:Int):Bool:=aZ n i&&decide (S i.toNat 0=0)
def pe (n:Nat) (S:Nat→Nat→Int) (i:Int):Nat→Nat→Int:=if fL n S i then ac (ac S i.toNat 0 1) i.toNat 1 1 else S
def fi (n:Nat) (S:Nat→Nat→Int) (i:Int):Bool:=aZ n i&&decide (S i.toNat 0=10)
def kj (n:Nat) (S:Nat→Nat→Int) (i:Int):Nat→Nat→Int:=if fi n S i then ac S i.toNat 0 11 else S
def ed (most a:Int):Int:=if wrap64 (2*a)≤most then wrap64 (2*a) else most
section
variable{w:World} {lb ab wb sb word n:Nat} {most:Int} {S:Nat→Nat→Int} {A:AR}
theorem dO.pc (h:dO w lb ab sb word n most S) {j:Nat} (hj:j<n) (t:Nat) (ht:t<4):w.cell? (sb,4*j+t)=some (.int .i64 (S j t)):=h.row.cell (dN n S hj ht)
theorem dO.pc0 (h:dO w lb ab sb word n most S) {j:Nat} (hj:j<n):w.cell? (sb,4*j)=some (.int .i64 (S j 0)):=h.row.cell (dN n S (t:=0) hj aO)
theorem dO.put0 (h:dO w lb ab sb word n most S) (i:Nat) (v:Int):dO (w.setCell (sb,4*i) (.int .i64 v)) lb ab sb word n most (ac S i 0 v):=h.put i (t:=0) aO v
theorem x9 (h:dO w lb ab sb word n most S) (i:Int):Calls prog 159 #[some lb,i] w fun e w'=>e= .returned (.bool (fL n S i))∧dO w' lb ab sb word n most (pe n S i)∧ae [sb] w w':=by
 have H:=aH h;cases hi:aZ n i with
 |false=>
  have hr:fL n S i=false:=by unfold fL;rw[hi];rfl
  have hr2:pe n S i=S:=by unfold pe;rw[hr];rfl
  rw[hr,hr2];have HS:=aH (kF h hi);clear h hr hr2 hi;go_enter func159,ntmps159;go_wp2_with fail;refine HS.o.mono ?_;rintro e w' ⟨rfl,rfl⟩;go_wp2;go_ret;exact⟨rfl,H.o,aF⟩
 |true=>
  have hi':0≤i∧i<(n:Int):=by unfold aZ at hi;simpa using hi
  obtain⟨j,rfl⟩:=Int.eq_ofNat_of_zero_le hi'.1;have hj:j<n:=by omega
  have HS:=aH (eK h hj);have c0:=h.pc0 hj;have c1:=h.pc hj 1 aO;have hfz:=h.row.frozen;cases hq:decide (S j 0=0) with
  |false=>
   have hr:fL n S j=false:=by unfold fL;rw[hi];simpa using hq
   have hr2:pe n S j=S:=by unfold pe;rw[hr];rfl
   rw[hr,hr2];have d1:(S j 0 !=0)=true:=by simpa using hq
   generalize S j 0=pc at*;clear h hr hr2 hi hi' hq c1 hfz;go_enter func159,ntmps159;go_wp2_with fail;refine HS.o.mono ?_;rintro e w' ⟨rfl,rfl⟩;go_wp2;go_ret;exact⟨rfl,H.o,aF⟩
  |true=>
   have hr:fL n S j=true:=by unfold fL;rw[hi];simpa using hq
   have hr2:pe n S j=ac (ac S j 0 1) j 1 1:=by unfold pe;rw[hr];rfl
   rw[hr,hr2];have d1:(S j 0 !=0)=false:=by simpa using hq
   have HP:=aH ((h.put0 j 1).put j (t:=1) aO 1);generalize S j 0=pc at*;generalize S j 1=a at*;clear h hr hr2 hi hi' hq;go_enter func159,ntmps159;go_wp2_with fail;refine HS.o.mono ?_;rintro e w' ⟨rfl,rfl⟩;go_wp2;go_ret;exact⟨rfl,HP.o,((ae.refl [sb] w).set ⟨sb,4*j,none⟩ _ (.inl aS)).set ⟨sb,4*j+1,none⟩ _ (.inl aS)⟩
theorem sG (h:dO w lb ab sb word n most S) (i:Int):Calls prog 160 #[some lb,i] w fun e w'=>e= .returned (.bool (fi n S i))∧dO w' lb ab sb word n most (kj n S i)∧ae [sb] w w':=by
 have H:=aH h;cases hi:aZ n i with
 |false=>
  have hr:fi n S i=false:=by unfold fi;rw[hi];rfl
  have hr2:kj n S i=S:=by unfold kj;rw[hr];rfl
  rw[hr,hr2];have HS:=aH (kF h hi);clear h hr hr2 hi;go_enter func160,ntmps160;go_wp2_with fail;refine HS.o.mono ?_;rintro e w' ⟨rfl,rfl⟩;go_wp2;go_ret;exact⟨rfl,H.o,aF⟩
 |true=>
  have hi':0≤i∧i<(n:Int):=by unfold aZ at hi;simpa using hi
  obtain⟨j,rfl⟩:=Int.eq_ofNat_of_zero_le hi'.1;have hj:j<n:=by omega
  have HS:=aH (eK h hj);have c0:=h.pc0 hj;have hfz:=h.row.frozen;cases hq:decide (S j 0=10) with
  |false=>
   have hr:fi n S j=false:=by unfold fi;rw[hi];simpa using hq
   have hr2:kj n S j=S:=by unfold kj;rw[hr];rfl
   rw[hr,hr2];have d1:(S j 0 !=10)=true:=by simpa using hq
   generalize S j 0=pc at*;clear h hr hr2 hi hi' hq hfz;go_enter func160,ntmps160;go_wp2_with fail;refine HS.o.mono ?_;rintro e w' ⟨rfl,rfl⟩;go_wp2;go_ret;exact⟨rfl,H.o,aF⟩
  |true=>
   have hr:fi n S j=true:=by unfold fi;rw[hi];simpa using hq
   have hr2:kj n S j=ac S j 0 11:=by unfold kj;rw[hr];rfl
   rw[hr,hr2];have d1:(S j 0 !=10)=false:=by simpa using hq
   have HP:=aH (h.put0 j 11);generalize S j 0=pc at*;clear h hr hr2 hi hi' hq;go_enter func160,ntmps160;go_wp2_with fail;refine HS.o.mono ?_;rintro e w' ⟨rfl,rfl⟩;go_wp2;go_ret;exact⟨rfl,HP.o,(ae.refl [sb] w).set ⟨sb,4*j,none⟩ _ (.inl aS)⟩
theorem nV (h:dO w lb ab sb word n most S) (i:Int) (hq:aZ n i=false∨(S i.toNat 0≠1∧S i.toNat 0≠2∧S i.toNat 0≠11)):Calls prog 163 #[some lb,i] w fun e w'=>e= .returned false∧w=w':=by
 cases hi:aZ n i with
 |false=>
  have HS:=aH (kF h hi);clear h hq hi;go_enter func163,ntmps163;go_wp2_with fail;refine HS.o.mono ?_;rintro e w' ⟨rfl,rfl⟩;go_wp2;go_ret;exact⟨rfl,rfl⟩
 |true=>
  have hi':0≤i∧i<(n:Int):=by unfold aZ at hi;simpa using hi
  obtain⟨j,rfl⟩:=Int.eq_ofNat_of_zero_le hi'.1;have hj:j<n:=by omega
  have HS:=aH (eK h hj);have c0:=h.pc0 hj;rw[hi] at hq;rw[show((j:Int).toNat)=j from by omega] at hq;obtain⟨q1,q2,q3⟩:=hq.resolve_left aS;generalize S j 0=pc at*;have d1:(pc==1)=false:=by simpa using q1
  have d2:(pc==2)=false:=by simpa using q2
  have d3:(pc==11)=false:=by simpa using q3
  clear h hq hi hi' q1 q2 q3;go_enter func163,ntmps163;go_wp2_with fail;refine HS.o.mono ?_;rintro e w' ⟨rfl,rfl⟩;go_wp2;go_ret;exact⟨rfl,rfl⟩
theorem sN (h:dO w lb ab sb word n most S) {j:Nat} (hj:j<n) (hq:S j 0=2):Calls prog 163 #[some lb,j] w fun e w'=>e= .returned false∧
 dO w' lb ab sb word n most (if wrap64 (S j 2 - 1)=0 then ac (ac S j 2 (wrap64 (S j 2 - 1))) j 0 1 else ac S j 2 (wrap64 (S j 2 - 1)))∧ae [sb] w w':=by
 have HS:=aH (eK h hj);have c0:=h.pc0 hj;rw[hq] at c0;have c2:=h.pc hj 2 aO;have hfz:=h.row.frozen;have hP:=h.put j (t:=2) aO (wrap64 (S j 2 - 1));have hP0:=hP.put0 j 1;have k0:=hP.pc0 hj;have k2:=hP.pc hj 2 aO;have hfz2:=hP.row.frozen;have e0:ac S j 2 (wrap64 (S j 2 - 1)) j 0=2:=by unfold ac;simpa using hq
 have e2:ac S j 2 (wrap64 (S j 2 - 1)) j 2=wrap64 (S j 2 - 1):=by unfold ac;simp
 rw[e0] at k0;rw[e2] at k2;have HP:=aH hP;have HP0:=aH hP0;have HQ:=aH hq;have hf:ae [sb] w (w.setCell (sb,4*j+2) (.int .i64 (wrap64 (S j 2 - 1)))):=(ae.refl [sb] w).set ⟨sb,4*j+2,none⟩ _ (.inl aS);have HF:=aH hf;clear h hq hP hP0 e0 e2 hf;by_cases hz:wrap64 (S j 2 - 1)=0
 ·rw[if_pos hz];have d1:(wrap64 (S j 2 - 1)==0)=true:=by simpa using hz
  clear hz;generalize S j 2=b at*;go_enter func163,ntmps163;go_wp2_with fail;refine HS.o.mono ?_;rintro e w' ⟨rfl,rfl⟩;go_wp2;go_ret;exact⟨rfl,HP0.o,HF.o.set ⟨sb,4*j,none⟩ _ (.inl aS)⟩
 ·rw[if_neg hz];have d1:(wrap64 (S j 2 - 1)==0)=false:=by simpa using hz
  clear hz;generalize S j 2=b at*;go_enter func163,ntmps163;go_wp2_with fail;refine HS.o.mono ?_;rintro e w' ⟨rfl,rfl⟩;go_wp2;go_ret;exact⟨rfl,HP.o,HF.o⟩
end
theorem ag (n:Nat) (S:Nat→Nat→Int) {i t:Nat} (hi:i<n) (ht:t<4):(cq n S)[i*4+t]? =some (.int .i64 (S i t)):=by
 rw[Nat.mul_comm i 4];exact dN n S hi ht
theorem dP (n:Nat) (S:Nat→Nat→Int) {i t:Nat} (ht:t<4) (v:Int):(cq n S).set (i*4+t) (.int .i64 v)=cq n (ac S i t v):=by
 rw[Nat.mul_comm i 4];exact qE n S ht v
def AT (f:Nat→Int) (j:Nat) (v:Int):Nat→Int:=fun k=>if k=j then v else f k
theorem kf (f:Nat→Int) (j:Nat) (v:Int):AT f j v j=v:=by simp[AT]
theorem fu (f:Nat→Int) {j k:Nat} (v:Int) (h:k≠j):AT f j v k=f k:=by simp[AT,h]
theorem ba (S:Nat→Nat→Int) (i t:Nat) (v:Int):ac S i t v i t=v:=by simp[ac]
theorem a6 (S:Nat→Nat→Int) {i j:Nat} (t t':Nat) (v:Int) (h:j≠i):ac S i t v j t'=S j t':=by simp[ac,h]
theorem cN (S:Nat→Nat→Int) (i j:Nat) {t t':Nat} (v:Int) (h:t'≠t):ac S i t v j t'=S j t':=by simp[ac,h]
def AX:List Nat→Int
 | []=>0
 | [z]=>(z:Int)+1
 |_::q::r=>AX (q::r)
theorem n0:∀(Q:List Nat) (j:Nat),AX (Q++[j])=(j:Int)+1
 | [],_=>rfl
 | [_],_=>rfl
 |_::q::r,j=>n0 (q::r) j
theorem qW:∀(Q:List Nat),Q≠[]→∃z∈Q,AX Q=(z:Int)+1
 | [],h=>absurd rfl h
 | [z],_=>⟨z,by simp,rfl⟩
 |p::q::r,_=>by obtain⟨z,hz,e⟩:=qW (q::r) aS;exact⟨z,List.mem_cons_of_mem _ hz,e⟩
theorem uz {Q:List Nat}:AX Q=0↔Q=[]:=by
 constructor
 ·intro h;by_cases hq:Q=[]
  ·exact hq
  ·obtain⟨z,_,e⟩:=qW Q hq;omega
 ·rintro rfl;rfl
theorem uB {x:Nat} {r:List Nat} (hnd:(x::r).Nodup) (h:AX (x::r)=(x:Int)+1):r=[]:=by
 cases r with
 |nil=>rfl
 |cons q r=>
  obtain⟨z,hz,e⟩:=qW (q::r) aS;have h2:AX (x::q::r)=AX (q::r):=rfl;have:z=x:=by omega
  subst this;exact absurd hz (List.nodup_cons.1 hnd).1
def QL (S:Nat→Nat→Int) (nx:Nat→Int):List Nat→Prop
 | []=>True
 | [z]=>nx z=0
 |p::q::r=>((S q 0=4∧S q 1=(p:Int)+1∧nx p=0)∨(S q 0=5∧nx p=(q:Int)+1))∧QL S nx (q::r)
theorem QL.congr {S S':Nat→Nat→Int} {nx nx':Nat→Int}:∀{Q:List Nat},QL S nx Q→(∀j∈Q,nx' j=nx j)→(∀j∈Q.tail,S' j 0=S j 0∧S' j 1=S j 1)→QL S' nx' Q
 | [],_,_,_=>trivial
 | [z],h,hn,_=>by have:=hn z aS;unfold QL at h⊢;omega
 |p::q::r,h,hn,hs=>by
  obtain⟨h1,h2⟩:=h;have e1:=hn p aS;have e2:=hs q aS;refine⟨?_,QL.congr h2 (fun j hj=>hn j (List.mem_cons_of_mem _ hj)) (fun j hj=>hs j (by simp at hj⊢;exact .inr hj))⟩;rw[e1,e2.1,e2.2];exact h1
theorem QL.append {S:Nat→Nat→Int} {nx:Nat→Int} {j:Nat}:∀{Q:List Nat},QL S nx Q→Q≠[]→S j 0=4→S j 1=AX Q→nx j=0→QL S nx (Q++[j])
 | [],_,h,_,_,_=>absurd rfl h
 | [z],h,_,h4,h1,h0=>⟨.inl ⟨h4,h1,h⟩,h0⟩
 |p::q::r,h,_,h4,h1,h0=>⟨h.1,QL.append (Q:=q::r) h.2 aS h4 h1 h0⟩
theorem QL.link {S:Nat→Nat→Int} {nx:Nat→Int} {j:Nat}:∀{Q:List Nat},QL S nx Q→Q.Nodup→j∈Q.tail→S j 0=4→
 ∃p∈Q,p≠j∧S j 1=(p:Int)+1∧nx p=0∧QL (ac S j 0 5) (AT nx p ((j:Int)+1)) Q
 | [],_,_,hj,_=>by simp at hj
 | [z],_,_,hj,_=>by simp at hj
 |p::q::r,h,hnd,hj,h4=>by
  obtain⟨h1,h2⟩:=h;have hnd':=List.nodup_cons.1 hnd;have hnd2:=List.nodup_cons.1 hnd'.2;by_cases e:j=q
  ·subst e;have hp:p≠j:=fun e=>hnd'.1 (by simp[e]);rcases h1 with h1|h1
   ·refine⟨p,by simp,hp,h1.2.1,h1.2.2,.inr ⟨ba _ _ _ _,kf _ _ _⟩,h2.congr (fun k hk=>fu _ _ fun e=>hnd'.1 (e ▸ hk)) fun k hk=>?_⟩;have hk':k∈r:=by simpa using hk
    have:k≠j:=fun e=>hnd2.1 (e ▸ hk');exact⟨a6 _ _ _ _ this,a6 _ _ _ _ this⟩
   ·omega
  ·have hj':j∈(q::r).tail:=by simp at hj⊢;exact hj.resolve_left e
   obtain⟨p',hp',hne,ha,h0,hql⟩:=QL.link h2 hnd'.2 hj' h4;have hpp:p≠p':=fun e=>hnd'.1 (e ▸ hp');refine⟨p',List.mem_cons_of_mem _ hp',hne,ha,h0,?_,hql⟩;rw[a6 _ _ _ _ (fun e'=>e e'.symm),a6 _ _ _ _ (fun e'=>e e'.symm),fu _ _ hpp];exact h1
theorem QL.second {S:Nat→Nat→Int} {nx:Nat→Int} {x:Nat} {r:List Nat} (h:QL S nx (x::r)) (h0:nx x≠0):∃q r',r=q::r'∧nx x=(q:Int)+1∧S q 0=5:=by
 cases r with
 |nil=>exact absurd h h0
 |cons q r=>
  rcases h.1 with h1|h1
  ·exact absurd h1.2.2 h0
  ·exact⟨q,r,rfl,h1.2,h1.1⟩
theorem QL.tail {S:Nat→Nat→Int} {nx:Nat→Int} {x:Nat} {r:List Nat} (h:QL S nx (x::r)):QL S nx r:=by
 cases r with
 |nil=>trivial
 |cons q r=>exact h.2
structure CV where
 tl:Int
 nx:Nat→Int
 wt:Nat→Int
structure MC (n:Nat) (w:CV) (S:Nat→Nat→Int) (Q:List Nat) (o:Option Nat):Prop where
 nd:Q.Nodup
 lt:∀j∈Q,j<n
 mem:∀j,j<n→S j 0=4∨S j 0=5→j∈Q
 idle:∀j∈Q,o≠some j→S j 0=4∨S j 0=5
 ownr:∀j,j<n→10≤S j 0→o=some j
 own2:∀x,o=some x→(∃r,Q=x::r)∧((S x 0=10∨S x 0=11∨S x 0=12)∨(S x 0=13∧Q≠[x])∨(S x 0=14∧∃q r,Q=x::q::r∧S x 1=(q:Int)+1∧S q 0=5))
 non:o=none→∀h r,Q=h::r→S h 0=5∧w.wt h=0
 pcs:∀j,j<n→(0≤S j 0∧S j 0≤5)∨(10≤S j 0∧S j 0≤14)
 tl:w.tl=AX Q
 ql:QL S w.nx Q
 w1:∀j∈Q.tail,w.wt j=1
 p2:∀j,j<n→S j 0=2→w.nx j=0
 p3:∀j,j<n→S j 0=3→w.nx j=0∧w.wt j=1
section
variable{n:Nat} {w w':CV} {S S':Nat→Nat→Int} {Q:List Nat} {o:Option Nat}
theorem MC.out {j:Nat} (h:MC n w S Q o) (h3:S j 0≤3):j∉Q∧o≠some j:=by
 have ho:o≠some j:=fun e=>by have:=(h.own2 j e).2;omega
 exact⟨fun hm=>by have:=h.idle j hm ho;omega,ho⟩
theorem MC.own_lt {x:Nat} (h:MC n w S Q (some x)):x<n∧10≤S x 0:=by
 obtain⟨⟨r,rfl⟩,h2⟩:=h.own2 x rfl;exact⟨h.lt x aS,by omega⟩
theorem MC.head4 (h:MC n w S Q o):∀a r,Q=a::r→S a 0≠4:=by
 intro a r e;cases o with
 |none=>have:=(h.non rfl a r e).1;omega
 |some x=>
  obtain⟨⟨r',e'⟩,h2⟩:=h.own2 x rfl;rw[e] at e';have:=(List.cons.inj e').1;subst this;omega
theorem MC.keep {x:Nat} (h:MC n w S Q (some x)) (z:List Nat) (hx:∀t,S' x t=S x t) (h5:∀q,S q 0=5→S' q 0=5):
 (∃r,Q++z=x::r)∧((S' x 0=10∨S' x 0=11∨S' x 0=12)∨(S' x 0=13∧Q++z≠[x])∨(S' x 0=14∧∃q r,Q++z=x::q::r∧S' x 1=(q:Int)+1∧S' q 0=5)):=by
 obtain⟨⟨r,rfl⟩,h2⟩:=h.own2 x rfl;rw[hx,hx];refine⟨⟨r++z,rfl⟩,?_⟩;rcases h2 with h2|⟨h2,h3⟩|⟨h2,q,r',e,h3,h4⟩
 ·exact .inl h2
 ·refine .inr (.inl ⟨h2,fun e=>h3 ?_⟩);cases r with
  |nil=>rfl
  |cons a b=>simp at e
 ·refine .inr (.inr ⟨h2,q,r'++z,?_,h3,h5 q h4⟩);rw[e];rfl
theorem MC.early {j:Nat} {pc:Int} (h:MC n w S Q o) (hj:j<n) (h0:0≤S j 0∧S j 0≤3) (hpc:0≤pc∧pc≤3) (hn:∀k,k≠j→w'.nx k=w.nx k) (hw:∀k,k≠j→w'.wt k=w.wt k) (ht:w'.tl=w.tl)
 (hp2:pc=2→w'.nx j=0) (hp3:pc=3→w'.nx j=0∧w'.wt j=1):MC n w' (ac S j 0 pc) Q o:=by
 obtain⟨hno,ho⟩:=h.out h0.2;have hne:∀k∈Q,k≠j:=fun k hk e=>hno (e ▸ hk);refine{nd:=h.nd,lt:=h.lt,mem:=fun k hk hc=>?_,idle:=fun k hk hc=>?_,ownr:=fun k hk hc=>?_,own2:=fun y hy=>?_,non:=fun e a r e2=>?_,pcs:=fun k hk=>?_,tl:=by rw[ht];exact h.tl,ql:=?_,w1:=fun k hk=>?_,p2:=fun k hk hc=>?_,p3:=fun k hk hc=>?_}
 ·by_cases e:k=j
  ·subst e;rw[ba] at hc;omega
  ·rw[a6 _ _ _ _ e] at hc;exact h.mem k hk hc
 ·rw[a6 _ _ _ _ (hne k hk)];exact h.idle k hk hc
 ·by_cases e:k=j
  ·subst e;rw[ba] at hc;omega
  ·rw[a6 _ _ _ _ e] at hc;exact h.ownr k hk hc
 ·subst hy;have:=h.keep (S':=ac S j 0 pc) [] (fun t=>a6 _ _ _ _ (fun e=>ho (by rw[e]))) (fun q hq=>by rw[a6 _ _ _ _ (fun e=>by subst e;omega)];exact hq);simpa using this
 ·have hm:a≠j:=hne a (by rw[e2];simp);rw[a6 _ _ _ _ hm,hw a hm];exact h.non e a r e2
 ·by_cases e:k=j
  ·subst e;rw[ba];exact .inl aO
  ·rw[a6 _ _ _ _ e];exact h.pcs k hk
 ·refine h.ql.congr (fun k hk=>hn k (hne k hk)) fun k hk=>?_;have e:=hne k (List.mem_of_mem_tail hk);exact⟨a6 _ _ _ _ e,a6 _ _ _ _ e⟩
 ·rw[hw k (hne k (List.mem_of_mem_tail hk))];exact h.w1 k hk
 ·by_cases e:k=j
  ·subst e;rw[ba] at hc;exact hp2 hc
  ·rw[a6 _ _ _ _ e] at hc;rw[hn k e];exact h.p2 k hk hc
 ·by_cases e:k=j
  ·subst e;rw[ba] at hc;exact hp3 hc
  ·rw[a6 _ _ _ _ e] at hc;rw[hn k e,hw k e];exact h.p3 k hk hc
theorem MC.door {j:Nat} (h:MC n w S Q o) (hj:j<n) (h0:S j 0=3) (ht:w'.tl=(j:Int)+1) (hn:w'.nx=w.nx) (hw:w'.wt=w.wt):
 (w.tl=0→MC n w' (ac (ac S j 1 w.tl) j 0 10) [j] (some j))∧(w.tl≠0→MC n w' (ac (ac S j 1 w.tl) j 0 4) (Q++[j]) o):=by
 obtain⟨hno,ho⟩:=h.out (j:=j) aO;have hs:∀(pc:Int) k,k≠j→∀t,ac (ac S j 1 w.tl) j 0 pc k t=S k t:=fun pc k e t=>by rw[a6 _ _ _ _ e,a6 _ _ _ _ e]
 have hsj:∀pc:Int,ac (ac S j 1 w.tl) j 0 pc j 0=pc:=fun pc=>ba _ _ _ _;refine⟨fun hz=>?_,fun hz=>?_⟩
 ·have hQ:Q=[]:=uz.1 (h.tl ▸ hz);subst hQ;have hon:o=none:=by
   cases o with
   |none=>rfl
   |some x=>obtain⟨⟨r,e⟩,_⟩:=h.own2 x rfl;simp at e
  subst hon;refine{nd:=by simp,lt:=by simpa using hj,mem:=fun k hk hc=>?_,idle:=fun k hk hc=>?_,ownr:=fun k hk hc=>?_,own2:=fun y hy=>?_,non:=fun e=>by simp at e,pcs:=fun k hk=>?_,tl:=ht,ql:=by unfold QL;rw[hn];exact(h.p3 j hj h0).1,w1:=by simp,p2:=fun k hk hc=>?_,p3:=fun k hk hc=>?_}
  ·by_cases e:k=j
   ·subst e;simp
   ·rw[hs _ k e] at hc;have:=h.mem k hk hc;simp at this
  ·simp at hk;subst hk;exact absurd rfl hc
  ·by_cases e:k=j
   ·rw[e]
   ·rw[hs _ k e] at hc;have:=h.ownr k hk hc;simp at this
  ·obtain rfl:j=y:=by simpa using hy
   exact⟨⟨[],rfl⟩,.inl (.inl (hsj 10))⟩
  ·by_cases e:k=j
   ·subst e;rw[hsj];exact .inr aO
   ·rw[hs _ k e];exact h.pcs k hk
  ·have e:k≠j:=fun e=>by subst e;rw[hsj] at hc;omega
   rw[hs _ k e] at hc;rw[hn];exact h.p2 k hk hc
  ·have e:k≠j:=fun e=>by subst e;rw[hsj] at hc;omega
   rw[hs _ k e] at hc;rw[hn,hw];exact h.p3 k hk hc
 ·have hq:Q≠[]:=fun e=>hz (by rw[h.tl,e];rfl);have hne:∀k∈Q,k≠j:=fun k hk e=>hno (e ▸ hk);have htl:(Q++[j]).tail=Q.tail++[j]:=by cases Q with|nil=>exact absurd rfl hq|cons a r=>rfl
  refine{nd:=?_,lt:=fun k hk=>?_,mem:=fun k hk hc=>?_,idle:=fun k hk hc=>?_,ownr:=fun k hk hc=>?_,own2:=fun y hy=>?_,non:=fun e a r e2=>?_,pcs:=fun k hk=>?_,tl:=by rw[ht,n0],ql:=?_,w1:=fun k hk=>?_,p2:=fun k hk hc=>?_,p3:=fun k hk hc=>?_}
  ·rw[List.nodup_append];exact⟨h.nd,by simp,fun a ha b hb=>by simp at hb;subst hb;exact hne a ha⟩
  ·rcases List.mem_append.1 hk with hk|hk
   ·exact h.lt k hk
   ·simp at hk;subst hk;exact hj
  ·by_cases e:k=j
   ·subst e;simp
   ·rw[hs _ k e] at hc;exact List.mem_append.2 (.inl (h.mem k hk hc))
  ·by_cases e:k=j
   ·subst e;exact .inl (hsj 4)
   ·rw[hs _ k e];exact h.idle k ((List.mem_append.1 hk).resolve_right (by simpa using e)) hc
  ·by_cases e:k=j
   ·subst e;rw[hsj] at hc;omega
   ·rw[hs _ k e] at hc;exact h.ownr k hk hc
  ·subst hy;have hyj:y≠j:=fun e=>ho (by rw[e]);exact h.keep [j] (fun t=>hs 4 y hyj t) (fun q hq=>by rw[hs 4 q (fun e=>by subst e;omega)];exact hq)
  ·cases Q with
   |nil=>exact absurd rfl hq
   |cons b q=>
    have:b=a:=by simpa using(List.cons.inj e2).1
    subst this;rw[hs _ b (hne b aS),hw];exact h.non e b q rfl
  ·by_cases e:k=j
   ·subst e;rw[hsj];exact .inl aO
   ·rw[hs _ k e];exact h.pcs k hk
  ·refine QL.append ?_ hq (hsj 4) (by rw[cN _ _ _ _ aO,ba];exact h.tl) (by rw[hn];exact(h.p3 j hj h0).1);refine h.ql.congr (fun k _=>by rw[hn]) fun k hk=>?_;have e:=hne k (List.mem_of_mem_tail hk);exact⟨hs 4 k e 0,hs 4 k e 1⟩
  ·rw[htl] at hk;rw[hw];rcases List.mem_append.1 hk with hk|hk
   ·exact h.w1 k hk
   ·simp at hk;subst hk;exact(h.p3 k hj h0).2
  ·have e:k≠j:=fun e=>by subst e;rw[hsj] at hc;omega
   rw[hs _ k e] at hc;rw[hn];exact h.p2 k hk hc
  ·have e:k≠j:=fun e=>by subst e;rw[hsj] at hc;omega
   rw[hs _ k e] at hc;rw[hn,hw];exact h.p3 k hk hc
theorem MC.link {j:Nat} (h:MC n w S Q o) (hj:j<n) (h0:S j 0=4):
 ∃p,p<n∧S j 1=(p:Int)+1∧∀w':CV,w'.tl=w.tl→w'.nx=AT w.nx p ((j:Int)+1)→w'.wt=w.wt→MC n w' (ac S j 0 5) Q o:=by
 have hm:=h.mem j hj (.inl h0);have hjt:j∈Q.tail:=by
  cases Q with
  |nil=>simp at hm
  |cons a r=>
   rcases List.mem_cons.1 hm with e|hm
   ·exact absurd h0 (h.head4 j r (by rw[e]))
   ·exact hm
 obtain⟨p,hp,hpj,ha,hz,hql⟩:=h.ql.link h.nd hjt h0;have ho:o≠some j:=fun e=>by have:=(h.own2 j e).2;omega
 have hpp:S p 0≠2∧S p 0≠3:=by
  by_cases e:o=some p
  ·have:=(h.own2 p e).2;omega
  ·have:=h.idle p hp e;omega
 refine⟨p,h.lt p hp,ha,fun w' ht hn hw=>?_⟩;refine{nd:=h.nd,lt:=h.lt,mem:=fun k hk hc=>?_,idle:=fun k hk hc=>?_,ownr:=fun k hk hc=>?_,own2:=fun y hy=>?_,non:=fun e a r e2=>?_,pcs:=fun k hk=>?_,tl:=by rw[ht];exact h.tl,ql:=by rw[hn];exact hql,w1:=by rw[hw];exact h.w1,p2:=fun k hk hc=>?_,p3:=fun k hk hc=>?_}
 ·by_cases e:k=j
  ·rw[e];exact hm
  ·rw[a6 _ _ _ _ e] at hc;exact h.mem k hk hc
 ·by_cases e:k=j
  ·subst e;exact .inr (ba _ _ _ _)
  ·rw[a6 _ _ _ _ e];exact h.idle k hk hc
 ·by_cases e:k=j
  ·subst e;rw[ba] at hc;omega
  ·rw[a6 _ _ _ _ e] at hc;exact h.ownr k hk hc
 ·subst hy;have:=h.keep (S':=ac S j 0 5) [] (fun t=>a6 _ _ _ _ (fun e=>ho (by rw[e]))) (fun q hq=>by rw[a6 _ _ _ _ (fun e=>by subst e;omega)];exact hq);simpa using this
 ·have:=h.non e a r e2;have ha:a≠j:=fun e3=>by subst e3;omega
  rw[a6 _ _ _ _ ha,hw];exact this
 ·by_cases e:k=j
  ·subst e;rw[ba];exact .inl aO
  ·rw[a6 _ _ _ _ e];exact h.pcs k hk
 ·by_cases e:k=j
  ·subst e;rw[ba] at hc;omega
  ·rw[a6 _ _ _ _ e] at hc;rw[hn,fu _ _ (fun e=>by subst e;exact hpp.1 hc)];exact h.p2 k hk hc
 ·by_cases e:k=j
  ·subst e;rw[ba] at hc;omega
  ·rw[a6 _ _ _ _ e] at hc;rw[hn,hw,fu _ _ (fun e=>by subst e;exact hpp.2 hc)];exact h.p3 k hk hc
theorem MC.enter {j:Nat} (h:MC n w S Q o) (hj:j<n) (h0:S j 0=5) (hz:w.wt j=0):
 o=none∧∀w':CV,w'.tl=w.tl→w'.nx=w.nx→w'.wt=w.wt→MC n w' (ac S j 0 10) Q (some j):=by
 have hm:=h.mem j hj (.inr h0);have hw1:j∉Q.tail:=fun hm=>by have:=h.w1 j hm;omega
 have hr:∃r,Q=j::r:=by
  cases Q with
  |nil=>simp at hm
  |cons a r=>
   rcases List.mem_cons.1 hm with e|hm
   ·exact⟨r,by rw[e]⟩
   ·exact absurd hm hw1
 obtain⟨r,rfl⟩:=hr;have hon:o=none:=by
  cases o with
  |none=>rfl
  |some x=>
   obtain⟨⟨r',e⟩,h2⟩:=h.own2 x rfl;have:=(List.cons.inj e).1;subst this;omega
 subst hon;have hnd:=List.nodup_cons.1 h.nd;refine⟨rfl,fun w' ht hn hw=>?_⟩;refine{nd:=h.nd,lt:=h.lt,mem:=fun k hk hc=>?_,idle:=fun k hk hc=>?_,ownr:=fun k hk hc=>?_,own2:=fun y hy=>?_,non:=fun e=>by simp at e,pcs:=fun k hk=>?_,tl:=by rw[ht];exact h.tl,ql:=?_,w1:=by rw[hw];exact h.w1,p2:=fun k hk hc=>?_,p3:=fun k hk hc=>?_}
 ·by_cases e:k=j
  ·subst e;simp
  ·rw[a6 _ _ _ _ e] at hc;exact h.mem k hk hc
 ·have e:k≠j:=fun e=>hc (by rw[e]);rw[a6 _ _ _ _ e];exact h.idle k hk aS
 ·by_cases e:k=j
  ·rw[e]
  ·rw[a6 _ _ _ _ e] at hc;have:=h.ownr k hk hc;simp at this
 ·obtain rfl:j=y:=by simpa using hy
  exact⟨⟨r,rfl⟩,.inl (.inl (ba _ _ _ _))⟩
 ·by_cases e:k=j
  ·subst e;rw[ba];exact .inr aO
  ·rw[a6 _ _ _ _ e];exact h.pcs k hk
 ·refine h.ql.congr (fun k _=>by rw[hn]) fun k hk=>?_;have e:k≠j:=fun e=>hnd.1 (by subst e;exact hk);exact⟨a6 _ _ _ _ e,a6 _ _ _ _ e⟩
 ·by_cases e:k=j
  ·subst e;rw[ba] at hc;omega
  ·rw[a6 _ _ _ _ e] at hc;rw[hn];exact h.p2 k hk hc
 ·by_cases e:k=j
  ·subst e;rw[ba] at hc;omega
  ·rw[a6 _ _ _ _ e] at hc;rw[hn,hw];exact h.p3 k hk hc
theorem MC.own {x:Nat} (h:MC n w S Q (some x)) (hS:∀j,j≠x→∀t,S' j t=S j t)
 (h2:(S' x 0=10∨S' x 0=11∨S' x 0=12)∨(S' x 0=13∧Q≠[x])∨(S' x 0=14∧∃q r,Q=x::q::r∧S' x 1=(q:Int)+1∧S' q 0=5)) (ht:w'.tl=w.tl) (hn:w'.nx=w.nx) (hw:w'.wt=w.wt):MC n w' S' Q (some x):=by
 have hxp:10≤S x 0:=h.own_lt.2;obtain⟨⟨r,rfl⟩,h3⟩:=h.own2 x rfl;have hnd:=List.nodup_cons.1 h.nd;have hp:10≤S' x 0∧S' x 0≤14:=by
  rcases h2 with h2|⟨h2,_⟩|⟨h2,_⟩
  ·omega
  ·omega
  ·omega
 refine{nd:=h.nd,lt:=h.lt,mem:=fun k hk hc=>?_,idle:=fun k hk hc=>?_,ownr:=fun k hk hc=>?_,own2:=fun y hy=>?_,non:=fun e=>by simp at e,pcs:=fun k hk=>?_,tl:=by rw[ht];exact h.tl,ql:=?_,w1:=by rw[hw];exact h.w1,p2:=fun k hk hc=>?_,p3:=fun k hk hc=>?_}
 ·by_cases e:k=x
  ·subst e;simp
  ·rw[hS k e] at hc;exact h.mem k hk hc
 ·have e:k≠x:=fun e=>hc (by rw[e]);rw[hS k e];exact h.idle k hk hc
 ·by_cases e:k=x
  ·rw[e]
  ·rw[hS k e] at hc;exact h.ownr k hk hc
 ·obtain rfl:x=y:=by simpa using hy
  exact⟨⟨r,rfl⟩,h2⟩
 ·by_cases e:k=x
  ·subst e;exact .inr hp
  ·rw[hS k e];exact h.pcs k hk
 ·refine h.ql.congr (fun k _=>by rw[hn]) fun k hk=>?_;have e:k≠x:=fun e=>hnd.1 (by subst e;exact hk);exact⟨hS k e 0,hS k e 1⟩
 ·have e:k≠x:=fun e=>by subst e;omega
  rw[hS k e] at hc;rw[hn];exact h.p2 k hk hc
 ·have e:k≠x:=fun e=>by subst e;omega
  rw[hS k e] at hc;rw[hn,hw];exact h.p3 k hk hc
theorem MC.quit {x:Nat} {r:List Nat} (h:MC n w S (x::r) (some x)) (ht:w'.tl=AX r) (hn:w'.nx=w.nx) (hw:∀k,k∉r.head?.toList→w'.wt k=w.wt k) (hh:∀a r',r=a::r'→S a 0=5∧w'.wt a=0):MC n w' (ac S x 0 0) r none:=by
 have hnd:=List.nodup_cons.1 h.nd;have hxp:10≤S x 0:=h.own_lt.2;have hr:∀k∈r,k≠x:=fun k hk e=>hnd.1 (by subst e;exact hk);have hi:∀k∈r,S k 0=4∨S k 0=5:=fun k hk=>h.idle k (List.mem_cons_of_mem _ hk) (fun e=>hr k hk (by simpa using e.symm));refine{nd:=hnd.2,lt:=fun k hk=>h.lt k (List.mem_cons_of_mem _ hk),mem:=fun k hk hc=>?_,idle:=fun k hk hc=>?_,ownr:=fun k hk hc=>?_,own2:=fun y hy=>by simp at hy,non:=fun _ a r' e=>?_,pcs:=fun k hk=>?_,tl:=ht,ql:=?_,w1:=fun k hk=>?_,p2:=fun k hk hc=>?_,p3:=fun k hk hc=>?_}
 ·by_cases e:k=x
  ·subst e;rw[ba] at hc;omega
  ·rw[a6 _ _ _ _ e] at hc;exact(List.mem_cons.1 (h.mem k hk hc)).resolve_left e
 ·rw[a6 _ _ _ _ (hr k hk)];exact hi k hk
 ·by_cases e:k=x
  ·subst e;rw[ba] at hc;omega
  ·rw[a6 _ _ _ _ e] at hc;have:=h.ownr k hk hc;simp at this;exact absurd this.symm e
 ·have:=hh a r' e;rw[a6 _ _ _ _ (hr a (by rw[e];simp))];exact this
 ·by_cases e:k=x
  ·subst e;rw[ba];exact .inl aO
  ·rw[a6 _ _ _ _ e];exact h.pcs k hk
 ·refine h.ql.tail.congr (fun k _=>by rw[hn]) fun k hk=>?_;have e:=hr k (List.mem_of_mem_tail hk);exact⟨a6 _ _ _ _ e,a6 _ _ _ _ e⟩
 ·have hk':k∉r.head?.toList:=fun hm=>by
   cases r with
   |nil=>simp at hk
   |cons a b=>
    simp at hm hk;subst hm;exact(List.nodup_cons.1 hnd.2).1 hk
  rw[hw k hk'];exact h.w1 k (List.mem_of_mem_tail hk)
 ·have e:k≠x:=fun e=>by subst e;rw[ba] at hc;omega
  rw[a6 _ _ _ _ e] at hc;rw[hn];exact h.p2 k hk hc
 ·have e:k≠x:=fun e=>by subst e;rw[ba] at hc;omega
  rw[a6 _ _ _ _ e] at hc;have hk':k∉r.head?.toList:=fun hm=>by
   cases r with
   |nil=>simp at hm
   |cons a b=>
    simp at hm;subst hm;have:=hi k aS;omega
  rw[hn,hw k hk'];exact h.p3 k hk hc
end
def dn (d:Nat→Nat):List Value:=(List.range 32).map fun j=>Value.int .i64 (d j)
theorem Ag (d:Nat→Nat) {j:Nat} (hj:j<32):(dn d)[j]? =some (.int .i64 (d j)):=by simp[dn,hj]
def AV (d:Nat→Nat) (k:Nat):Nat→Nat:=fun j=>if j=k then d j+1 else d j
theorem Gu (d:Nat→Nat) (k:Nat):(dn d).set k (.int .i64 ((d k:Int)+1))=dn (AV d k):=by
 apply List.ext_getElem?;intro j;rw[List.getElem?_set];by_cases h:k=j
 ·subst h;by_cases h8:k<32
  ·simp[dn,AV,h8]
  ·simp[dn,h8]
 ·rw[if_neg h];have hjk:¬j=k:=fun e=>h e.symm;by_cases h8:j<32
  ·simp[dn,AV,h8,hjk]
  ·simp[dn,h8]
structure kU (w:World) (tb ab first slots:Nat) (d:Nat→Nat) (m:Nat):Prop where
 box:am w tb (.pointer (some ⟨ab,0,none⟩):: .int .i64 first:: .int .i64 slots::dn d) 250
 first1:1≤first
 first2:first≤5000
 slots2:slots≤32
 bd:∀j,d j≤m
theorem kU.frm {w w':World} {tb ab first slots m:Nat} {d:Nat→Nat} (h:kU w tb ab first slots d m) {S:List Nat} (hf:ae S w w') (h1:tb∉S):kU w' tb ab first slots d m:=
 {h with box:=h.box.frm hf h1}
def eD (slots:Nat) (d:Nat→Nat) (i:Int):Int:=if eC slots i then oo (i+1) ((d i.toNat:Int)+1) else 0
def AR.tDone (A:AR) (first slots:Nat) (i:Int):AR:=if eC slots i then A.add ((first:Int)+i) 1 else A
def x7 (slots:Nat) (d:Nat→Nat) (i:Int):Nat→Nat:=if eC slots i then AV d i.toNat else d
def iV (slots:Nat) (x:Int):Bool:= !mX x&&eC slots (iM x - 1)
def AR.tIs (A:AR) (first slots:Nat) (x:Int):Bool:=iV slots x&&decide (zX x≤A.get ((first:Int)+(iM x - 1)))
def AR.tLook (A:AR) (first slots:Nat) (x:Int):AR:=if iV slots x then A.load ((first:Int)+(iM x - 1)) else A
section
variable{w:World} {tb ab wb first slots m:Nat} {d:Nat→Nat} {A:AR}
theorem ug (h:kU w tb ab first slots d m):Calls prog 275 #[some tb] w fun e w'=>e= .returned slots∧w=w':=by
 have c2:=h.box.cell (i:=2) rfl;clear h;go_enter func275,ntmps275;go_wp2;go_ret;exact⟨rfl,rfl⟩
theorem kJ (h:kU w tb ab first slots d m) (i:Int):Calls prog 270 #[some tb,i] w fun e w'=>e= .returned (.bool (eC slots i))∧w=w':=by
 have HS:=aH (ug h);clear h;by_cases hneg:i<0
 ·have hr:eC slots i=false:=by unfold eC;simp;omega
  rw[hr];have d1:decide (i<0)=true:=by simpa using hneg
  have d2:decide (0≤i)=false:=by simpa using hneg
  clear hr;go_enter func270,ntmps270;go_wp2;go_ret;exact⟨rfl,rfl⟩
 ·have d1:decide (i<0)=false:=by simpa using hneg
  have d2:decide (0≤i)=true:=by simp;omega
  have hr:eC slots i=decide (i<(slots:Int)):=by unfold eC;simp;omega
  rw[hr];clear hr;go_enter func270,ntmps270;go_wp2_with fail;refine HS.o.mono ?_;rintro e w' ⟨rfl,rfl⟩;go_wp2;go_ret;exact⟨rfl,rfl⟩
theorem vE (h:kU w tb ab first slots d m) (hm:m≤1000000) (i:Int):Calls prog 267 #[some tb,i] w fun e w'=>e= .returned (eD slots d i:Int)∧∃n,w'=w.drewN n:=by
 have HS:=aH (kJ h i);cases hk:eC slots i with
 |false=>
  have hr:eD slots d i=0:=by unfold eD;rw[hk];rfl
  rw[hr];rw[hk] at HS;clear h hr hk;go_enter func267,ntmps267;go_wp2_with fail;refine HS.o.mono ?_;rintro e w' ⟨rfl,rfl⟩;go_wp2;go_ret;exact⟨rfl,0,rfl⟩
 |true=>
  have hr:eD slots d i=oo (i+1) ((d i.toNat:Int)+1):=by unfold eD;rw[hk];rfl
  rw[hr];rw[hk] at HS;have hk':0≤i∧i<(slots:Int):=by unfold eC at hk;simpa using hk
  have hs:=h.slots2;obtain⟨j,rfl⟩:=Int.eq_ofNat_of_zero_le hk'.1;have hj:j<32:=by omega
  have c:=h.box.cell (i:=3+j) (v:=.int .i64 (d j)) (by rw[show 3+j=j+1+1+1 from by omega];simpa using Ag d hj);have hb:=h.bd j;rw[show((j:Int).toNat)=j from by omega];generalize d j=q at*;have l1:(j:Int)<32:=by omega
  clear h hr hk hk' hs;go_enter func267,ntmps267;go_wp2_with fail;refine HS.o.mono ?_;rintro e w' ⟨rfl,rfl⟩;go_wp2_with fail;refine(zf _ _ _).mono ?_;rintro e w' ⟨rfl,n,rfl⟩;go_wp2;go_ret;exact⟨rfl,_,rfl⟩
theorem vy (h:kU w tb ab first slots d m) (hA:aj w ab wb A) (hm:m≤1000000) (hne:tb≠ab∧tb≠wb) (i:Int):Calls prog 269 #[some tb,i] w fun e w'=>e= .returned (.tuple #[])∧
 aj w' ab wb (A.tDone first slots i)∧kU w' tb ab first slots (x7 slots d i) (m+1)∧ae [tb,ab,wb] w w':=by
 have HS:=aH (kJ h i);cases hk:eC slots i with
 |false=>
  have hr:A.tDone first slots i=A:=by unfold AR.tDone;rw[hk];rfl
  have hr':x7 slots d i=d:=by unfold x7;rw[hk];rfl
  rw[hr,hr'];rw[hk] at HS;have H:=aH h;have HA:=aH hA;clear h hA hr hr' hk;go_enter func269,ntmps269;go_wp2_with fail;refine HS.o.mono ?_;rintro e w' ⟨rfl,rfl⟩;go_wp2;go_end0;exact⟨rfl,HA.o,{H.o with bd:=fun j=>Nat.le_succ_of_le (H.o.bd j)},aF⟩
 |true=>
  have hr:A.tDone first slots i=A.add ((first:Int)+i) 1:=by unfold AR.tDone;rw[hk];rfl
  have hr':x7 slots d i=AV d i.toNat:=by unfold x7;rw[hk];rfl
  rw[hr,hr'];rw[hk] at HS;have hk':0≤i∧i<(slots:Int):=by unfold eC at hk;simpa using hk
  have hs:=h.slots2;have f1:=h.first1;have f2:=h.first2;obtain⟨j,rfl⟩:=Int.eq_ofNat_of_zero_le hk'.1;have hj:j<32:=by omega
  have c0:=h.box.cell (i:=0) rfl;have c1:=h.box.cell (i:=1) rfl;have c:=h.box.cell (i:=3+j) (v:=.int .i64 (d j)) (by rw[show 3+j=j+1+1+1 from by omega];simpa using Ag d hj);have hb:=h.bd j;have hfz:=h.box.frozen;have hset:=fun n=>(h.box.drew n).set (3+j) (.int .i64 ((d j:Int)+1));rw[show((j:Int).toNat)=j from by omega];have hq:(Value.pointer (some ⟨ab,0,none⟩):: .int .i64 first:: .int .i64 slots::dn d).set (3+j) (.int .i64 ((d j:Int)+1))= .pointer (some ⟨ab,0,none⟩):: .int .i64 first:: .int .i64 slots::dn (AV d j):=by
   rw[show 3+j=j+1+1+1 from by omega,List.set_cons_succ,List.set_cons_succ,List.set_cons_succ,Gu]
  rw[hq] at hset;have HT:Hy (∀n,kU ((w.drewN n).setCell (tb,3+j) (.int .i64 ((d j:Int)+1))) tb ab first slots (AV d j) (m+1)):=aH fun n=>{h with box:=hset n,bd:=fun i=>by have:=h.bd i;unfold AV;split<;>omega}
  have HA:=aH hA;clear hset hq h hA;generalize d j=q at*;have l1:(j:Int)<32:=by omega
  clear hr hk hk' hs hr';go_enter func269,ntmps269;go_wp2_with fail;refine HS.o.mono ?_;rintro e w' ⟨rfl,rfl⟩;go_wp2_with fail;refine cU 10 aK aK ?_;simp only[List.take_succ_cons,List.take_zero,List.drop_succ_cons,List.drop_zero];repeat (quiet_step (fail))
  refine wpQuiet_nil ?_;rintro _ ⟨nq,rfl⟩;go_wp2_with fail;have hF1:ae [tb] w ((w.drewN nq).setCell (tb,3+j) (.int .i64 ((q:Int)+1))):=(aF.drew nq).set ⟨tb,3+j,none⟩ _ (.inl aS);have hT:kU ((w.drewN nq).setCell (tb,3+j) (.int .i64 ((q:Int)+1))) tb ab first slots (AV d j) (m+1):=HT.o nq;have k0:=hT.box.cell (i:=0) rfl;have k1:=hT.box.cell (i:=1) rfl;generalize(w.drewN nq).setCell (tb,3+j) (.int .i64 ((q:Int)+1))=w1 at*;have hA1:=HA.o.frm hF1 aQ aQ;have HF1:=aH hF1;have HT1:=aH hT;have HAdd:=aH (fun n=>iB (hA1.frm (S:=[]) (aF.drew n) aS aS) ((first:Int)+j) 1);clear hF1 hT hA1 HA HT c0 c1 c hfz;refine cU 10 aK aK ?_;simp only[List.take_succ_cons,List.take_zero,List.drop_succ_cons,List.drop_zero];repeat (quiet_step (fail))
  refine wpQuiet_nil ?_;rintro _ ⟨nq2,rfl⟩;go_wp2_with fail;refine(HAdd.o nq2).mono ?_;rintro e w' ⟨rfl,hA',hF⟩;have HA':=aH hA';have HF:=aH (((ae.refl _ w1).drew nq2).trans hF);clear hA' hF;go_wp2;go_end0;exact⟨rfl,HA'.o,HT1.o.frm HF.o aQ,(HF1.o.mono aS).trans (HF.o.mono aS)⟩
theorem Br (h:kU w tb ab first slots d m) (hA:aj w ab wb A) (hne:tb≠ab∧tb≠wb) (x:Int) (hx:fP x):Calls prog 268 #[some tb,x] w fun e w'=>e= .returned (.bool (A.tIs first slots x))∧
 aj w' ab wb (A.tLook first slots x)∧ae [ab,wb] w w':=by
 have f1:=h.first1;have f2:=h.first2;have s2:=h.slots2;have hI:=(show 0≤iM x∧iM x<65536 from by unfold iM;omega)
 cases hM:mX x with
 |true=>
  have e1:A.tIs first slots x=false:=by unfold AR.tIs iV;rw[hM];rfl
  have e2:A.tLook first slots x=A:=by unfold AR.tLook iV;rw[hM];rfl
  rw[e1,e2];have HA:=aH hA;clear hA h e1 e2;go_enter func268,ntmps268;go_wp2_with fail;refine(lG _ _).mono ?_;rintro e w' ⟨rfl,n,rfl⟩;go_wp2_with fail;have HF:=aH ((ae.refl [] w).drew n);generalize w.drewN n=W at*;have HM:=aH (fun k=>jZ x hx (W.drewN k));rw[hM] at HM
  go_quiet ((go_at_call 273;exact Calls.quiet_of (HM.o _)))
  go_wp2;go_ret;exact⟨rfl,HA.o.frm (S:=[]) (HF.o.drew _) aS aS,(HF.o.drew _).mono aS⟩
 |false=>
  have H:=aH h;cases hk:eC slots (iM x - 1) with
  |false=>
   have e1:A.tIs first slots x=false:=by unfold AR.tIs iV;rw[hM,hk];rfl
   have e2:A.tLook first slots x=A:=by unfold AR.tLook iV;rw[hM,hk];rfl
   rw[e1,e2];have HA:=aH hA;clear hA h e1 e2;go_enter func268,ntmps268;go_wp2_with fail;refine(lG _ _).mono ?_;rintro e w' ⟨rfl,n,rfl⟩;go_wp2_with fail;have hf:=(ae.refl [] w).drew n;generalize w.drewN n=W at*;have HM:=aH (fun k=>jZ x hx (W.drewN k));rw[hM] at HM;have HH:=aH (fun k=>(kJ (H.o.frm (S:=[]) (hf.drew k) aS) (iM x - 1)).mono (fun e w' h=>(show e= .returned (.bool (eC slots (iM x - 1)))∧∃n,w'=(W.drewN k).drewN n from⟨h.1,0,h.2.symm⟩)));rw[hk] at HH;have HF:=aH hf;clear hf
   go_quiet ((first|(go_at_call 273;exact Calls.quiet_of (HM.o _))|(go_at_call 270;exact Calls.quiet_of (HH.o _))))
   go_wp2;go_ret;exact⟨rfl,HA.o.frm (S:=[]) (HF.o.drew _) aS aS,(HF.o.drew _).mono aS⟩
  |true=>
   have e1:A.tIs first slots x=decide (zX x≤A.get ((first:Int)+(iM x - 1))):=by unfold AR.tIs iV;rw[hM,hk];rfl
   have e2:A.tLook first slots x=A.load ((first:Int)+(iM x - 1)):=by unfold AR.tLook iV;rw[hM,hk];rfl
   rw[e1,e2];have hkk:∀wx,ae [ab,wb] w wx→wx.cell? (tb,0)=some (.pointer (some ⟨ab,0,none⟩))∧wx.cell? (tb,1)=some (.int .i64 first):=fun wx hf=>⟨(h.box.frm hf aQ).cell (i:=0) rfl,(h.box.frm hf aQ).cell (i:=1) rfl⟩
   have KK:=aH hkk;have HA:=aH hA;obtain⟨i,hi⟩:∃i,iM x=i+1:=⟨iM x - 1,by omega⟩
   have hsub:iM x - 1=i:=by omega
   rw[hsub] at hk⊢;have i1:0≤i:=by unfold eC at hk;simp at hk;omega
   have i2:i≤100:=by unfold eC at hk;simp at hk;omega
   have hwr:IntKind.i64.wrap ((first:Int)+i)=(first:Int)+i:=IntWalk.i64_in _ aO;have HWr:=aH hwr;clear hA h e1 e2 hkk hI hwr;go_enter func268,ntmps268;go_wp2_with fail;refine(lG _ _).mono ?_;rw[hi];rintro e w' ⟨rfl,n,rfl⟩;go_wp2_with fail;have hf:=(ae.refl [ab,wb] w).drew n;have hA:=HA.o.frm (S:=[]) ((ae.refl _ w).drew n) aS aS;have hH:=H.o.frm (S:=[]) ((ae.refl _ w).drew n) aS;generalize w.drewN n=W at*;have HF:=aH hf;have HA:=aH hA;have HH:=aH hH;clear hf hA hH H
   go_region_held3 (fun wx=>wx.cell? (tb,0)=some (.pointer (some ⟨ab,0,none⟩))∧wx.cell? (tb,1)=some (.int .i64 first)) (first|exact KK.o _ (by repeat (first|exact HFL.o|exact HF.o|apply ae.drew1|apply ae.drew))|exact KK.o _ (by repeat (first|exact HF.o|apply ae.drew1|apply ae.drew)))
    (first
     |(go_at_call 273;refine(jZ x hx _).mono ?_;rw[hM];rintro e1 w1 ⟨rfl,n1,rfl⟩)
     |(go_at_call 270;refine(kJ (HH.o.frm (S:=[]) aD aS) i).mono ?_;rw[hk];rintro e2 w2 ⟨rfl,rfl⟩)
     |(go_at_call 106;rw[HWr.o];refine(bq (HA.o.frm (S:=[]) aD aS aS) ((first:Int)+i)).mono ?_;rintro e3 w3 ⟨rfl,hAL,hFL⟩;have HAL:=aH hAL;have HFL:=aH (ae.trans (S:=[ab,wb]) (a:=w) (by repeat (first|exact HF.o|apply ae.drew1|apply ae.drew)) hFL);clear hAL hFL)
     |(go_at_call 274;refine(sE x _).mono ?_;rintro e4 w4 ⟨rfl,n4,rfl⟩))
   all_goals
    go_wp2;go_ret;exact⟨rfl,HAL.o.frm (S:=[]) aD aS aS,(by repeat (first|exact HFL.o|apply ae.drew1|apply ae.drew))⟩
end
def AR.tNewE (A:AR) (nodes:Int):Int:=if nodes<1∨32<nodes then 1 else A.takeE nodes
theorem CL {w:World} {ab wb:Nat} {A:AR} (h:aj w ab wb A) (nodes:Int) (he:A.tNewE nodes=0):
 Calls prog 93 #[some ab,nodes] w fun e w'=>∃tb,e= .returned (.tuple #[some tb,(0:Int)])∧w.heap.size≤tb∧
  kU w' tb ab (A.taken+1) nodes.toNat (fun _=>0) 0∧aj w' ab wb (A.take nodes)∧ae [ab,wb] w w':=by
 have h12:¬(nodes<1∨32<nodes):=by intro hc;unfold AR.tNewE at he;rw[if_pos hc] at he;omega
 have hr:A.takeE nodes=0:=by unfold AR.tNewE at he;rwa [if_neg h12] at he
 have h1:¬nodes<1:=by omega
 have h2:¬32<nodes:=by omega
 have d1:decide (nodes<1)=false:=by simp;omega
 have d2:decide (32<nodes)=false:=by simp;omega
 have hn:A.takeN nodes=(A.taken:Int)+1:=by unfold AR.takeN;rw[if_pos hr]
 have hT:=cY h nodes;rw[hr,hn] at hT;have HT:=aH hT;have hle:=h.le;have hroom:=h.room;have hab:=h.box.lt;have hwb:=h.row.lt;clear h he hr hT hn h12;go_enter func93,ntmps93;go_wp2_with fail;refine HT.o.mono ?_;rintro e w1 ⟨rfl,hA',hF⟩;have hsz:=hF.size;have HF:=aH hF;have HA:=aH hA';clear hA' hF;go_wp2;go_ret2;refine⟨w1.heap.size,rfl,hsz,?_,?_,HF.o.alloc _⟩
 ·have hnew:=am.new w1 (.pointer (some ⟨ab,0,none⟩):: .int .i64 ((A.taken:Int)+1):: .int .i64 nodes::dn fun _=>0).toArray 250;refine{box:=?_,first1:=by omega,first2:=by omega,slots2:=by omega,bd:=fun _=>Nat.le_refl _};have e1:((nodes.toNat:Nat):Int)=nodes:=by omega
  rw[e1];exact hnew
 ·exact{HA.o with box:=HA.o.box.alloc _,row:=HA.o.row.alloc _}
end Go.Proofs.YteijjhahgabalaaGreat
