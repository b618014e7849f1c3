/- The contracts of tas: New, a step whatever the slot is at. -/
import Derived.Test.YteijjhahgabalaaGreatWA19
import Derived.Test.YteijjhahgabalaaGreatWA07
import Derived.Test.YteijjhahgabalaaGreatWA14
set_option maxRecDepth 100000
set_option maxHeartbeats 8000000
set_option linter.all false
namespace Go.Proofs.YteijjhahgabalaaGreat
open Go.RowKit
open Tryz
theorem rD:(prog.info? 138).map (fun i=>(i.zero,i.size,i.bytes))=some (some (.agg #[(0:Int),(0:Int),(0:Int),(0:Int)]),4,32):=by kernel_rfl
theorem dZ (n:Nat) (hn:n≤1000) (W:World):(Instr.makeSlice 142 (.int .i64 n) (.int .i64 n)).run prog W= .ok (.slice (some ⟨W.heap.size,0,none⟩) n n) (W.alloc (.cells (cq n (fun _ _=>0)).toArray 138)):=by
 obtain⟨i0,hi,hz0,hz1,hz2⟩:=info_parts rD;rw[run_make W 142 138 i0 (.agg #[(0:Int),(0:Int),(0:Int),(0:Int)]) underlying142 hi hz0 .i64 .i64 n n aO aO (by rw[hz2];omega) aO];have e:madeCells (Value.agg #[(0:Int),(0:Int),(0:Int),(0:Int)]).cells (((n:Int).toNat)*i0.size)=(cq n (fun _ _=>0)).toArray:=by
  rw[hz1];apply Array.ext';apply List.ext_getElem?;intro j;have hz:∀k,k<4→(#[Value.int .i64 0,(0:Int),(0:Int),(0:Int)]:Array Value)[k]! = .int .i64 0:=by
   intro k hk;rcases(by omega:k=0∨k=1∨k=2∨k=3) with rfl|rfl|rfl|rfl<;>rfl
  have hz4:=hz (j%4) (Nat.mod_lt _ aO);by_cases hj:j<n*4
  ·unfold madeCells cq;simp only[Array.toList_map,List.getElem?_map,Array.toList_range];rw[List.getElem?_range (by simpa using hj),List.getElem?_range aO];show some _=some _;congr 1
  ·rw[List.getElem?_eq_none (by simp[madeCells];omega),List.getElem?_eq_none (by simp[cq];omega)]
 rw[e];simp
def me (n word:Nat) (S:Nat→Nat→Int) (A:AR) (i:Int):Bool:=aZ n i&&(if S i.toNat 0=1 then A.casOk word 0 else decide (S i.toNat 0=11))
def jU (n word:Nat) (most:Int) (S:Nat→Nat→Int) (A:AR) (i:Int):Nat→Nat→Int:=
 if aZ n i then
  (if S i.toNat 0=1 then(if A.casOk word 0 then ac S i.toNat 0 10 else ac (ac (ac S i.toNat 0 2) i.toNat 2 (S i.toNat 1)) i.toNat 1 (ed most (S i.toNat 1)))
   else if S i.toNat 0=2 then(if wrap64 (S i.toNat 2 - 1)=0 then ac (ac S i.toNat 2 (wrap64 (S i.toNat 2 - 1))) i.toNat 0 1 else ac S i.toNat 2 (wrap64 (S i.toNat 2 - 1)))
   else if S i.toNat 0=11 then ac S i.toNat 0 0 else S)
 else S
def iW (n word:Nat) (S:Nat→Nat→Int) (A:AR) (i:Int):AR:=if aZ n i then(if S i.toNat 0=1 then A.cas word 0 (i+1) else if S i.toNat 0=11 then A.store word 0 else A) else A
section
variable{w:World} {lb ab wb sb word n:Nat} {most:Int} {S:Nat→Nat→Int} {A:AR}
theorem xf (h:dO w lb ab sb word n most S) (hA:aj w ab wb A) (hne:lb≠ab∧lb≠wb∧sb≠ab∧sb≠wb) (i:Int):Calls prog 163 #[some lb,i] w fun e w'=>e= .returned (.bool (me n word S A i))∧
 dO w' lb ab sb word n most (jU n word most S A i)∧aj w' ab wb (iW n word S A i)∧ae [sb,ab,wb] w w':=by
 have hne':=hne;obtain⟨n1,n2,n3,n4⟩:=hne;cases hi:aZ n i with
 |false=>
  refine(nV h i (.inl hi)).mono fun e w' ⟨g1,g2⟩=>?_;subst g1 g2;exact⟨by unfold me;rw[hi];rfl,by unfold jU;rw[hi];exact h,by unfold iW;rw[hi];exact hA,aF⟩
 |true=>
  have hi':0≤i∧i<(n:Int):=by unfold aZ at hi;simpa using hi
  obtain⟨j,rfl⟩:=Int.eq_ofNat_of_zero_le hi'.1;have hj:j<n:=by omega
  have ej:((j:Int)).toNat=j:=by omega
  unfold me jU iW;rw[hi,ej];simp only[Bool.true_and,if_true];by_cases q1:S j 0=1
  ·simp only[if_pos q1];exact xj h hA hne' hj q1
  ·simp only[if_neg q1];by_cases q2:S j 0=2
   ·have q3:¬S j 0=11:=by omega
    simp only[if_pos q2,if_neg q3,decide_eq_false q3];exact(sN h hj q2).mono fun e w' ⟨g1,g2,g3⟩=>⟨g1,g2,hA.frm g3 aQ aQ,g3.mono aS⟩
   ·simp only[if_neg q2];by_cases q3:S j 0=11
    ·simp only[if_pos q3,decide_eq_true q3];exact tN h hA hne' hj q3
    ·simp only[if_neg q3,decide_eq_false q3];refine(nV h j (.inr ?_)).mono fun e w' ⟨g1,g2⟩=>?_
     ·rw[ej];exact⟨q1,q2,q3⟩
     ·subst g1 g2;exact⟨rfl,h,hA,aF⟩
theorem Cp (hA:aj w ab wb A) (n:Nat) (hn1:1≤n) (hn:n≤32) (hm1:1≤most) (hm2:most≤1024) (ht:A.takeE 1=0):
 Calls prog 49 #[some ab,n,most] w fun e w'=>∃lb sb,e= .returned (.tuple #[some lb,(0:Int)])∧w.heap.size≤lb∧w.heap.size≤sb∧
  dO w' lb ab sb (A.taken+1) n most (fun _ _=>0)∧aj w' ab wb (A.take 1)∧ae [ab,wb] w w':=by
 have d1:decide ((n:Int)<1)=false:=by simp;omega
 have d2:decide ((32:Int)<n)=false:=by simp;omega
 have d3:decide (most<1)=false:=by simp;omega
 have d4:decide (1024<most)=false:=by simp;omega
 have mk:=dZ n aO;have hT:=cY hA 1;have hn':A.takeN 1=(A.taken:Int)+1:=by unfold AR.takeN;rw[if_pos ht]
 rw[ht,hn'] at hT;have HT:=aH hT;have hab:=hA.box.lt;have hwb:=hA.row.lt;clear hA hT hn' ht;go_enter func49,ntmps49;go_wp2_with fail;refine HT.o.mono ?_;rintro e w1 ⟨rfl,hA',hF⟩;have hsz:=hF.size;have HF:=aH hF;have HA:=aH hA';clear hA' hF;go_wp2;go_ret2;have g1:=(am.new w1 (cq n fun _ _=>0).toArray 138).alloc (.cells #[some ab,((A.taken:Int)+1:Int),most,.slice (some ⟨w1.heap.size,0,none⟩) n n] 144);have g2:=am.new (w1.alloc (.cells (cq n fun _ _=>0).toArray 138)) #[some ab,((A.taken:Int)+1:Int),most,.slice (some ⟨w1.heap.size,0,none⟩) n n] 144;rw[World.size_alloc] at g2;refine⟨w1.heap.size+1,w1.heap.size,rfl,by omega,hsz,?_,?_,(HF.o.alloc _).alloc _⟩
 ·exact{box:=by simpa using g2,row:=by simpa using g1,ne:=by omega,n1:=hn1,n32:=hn,m1:=hm1,m2:=hm2}
 ·exact HA.o.frm (S:=[]) ((aF.alloc _).alloc _) aS aS
end
end Go.Proofs.YteijjhahgabalaaGreat
