/- The contracts of New of mcs, parted and clh. -/
import Derived.Test.YteijjhahgabalaaGreatWA25
set_option maxRecDepth 100000
set_option maxHeartbeats 8000000
set_option linter.all false
namespace Go.Proofs.YteijjhahgabalaaGreat
open Go.RowKit
open Tryz
theorem lw {A:AR} {m:Nat} {x:Int} (hm:1≤m) (ht:A.takeE x=0) (hx:x=m):A.taken+m≤A.ws.length:=by
 subst hx;unfold AR.takeE at ht;rw[if_neg aO] at ht;by_cases hb:(A.ws.length:Int) - (A.taken:Int)<m
 ·rw[if_pos hb] at ht;omega
 ·omega
section
variable{w:World} {ab wb:Nat} {A:AR}
theorem Co (hA:aj w ab wb A) (n:Nat) (hn1:1≤n) (hn:n≤32) (ht:A.takeE (1+2*(n:Int))=0):
 Calls prog 52 #[some ab,n] w fun e w'=>∃lb sb,e= .returned (.tuple #[some lb,(0:Int)])∧w.heap.size≤lb∧w.heap.size≤sb∧
  bD w' lb sb ab wb (A.taken+1) n (A.take (1+2*(n:Int))) (fun _ _=>0)∧ae [ab,wb] w w':=by
 have d1:decide ((n:Int)<1)=false:=by simp;omega
 have d2:decide ((32:Int)<n)=false:=by simp;omega
 have mk:=dZ n aO;have hT:=cY hA (1+2*(n:Int));have hn':A.takeN (1+2*(n:Int))=(A.taken:Int)+1:=by unfold AR.takeN;rw[if_pos ht]
 rw[ht,hn'] at hT;have HT:=aH hT;have hab:=hA.box.lt;have hwb:=hA.row.lt;have hroom:=hA.room;have hrm:=lw (m:=1+2*n) aO ht aO;clear hA hT hn' ht;go_enter func52,ntmps52;go_wp2_with fail;refine(HT.o).mono ?_;rintro e w1 ⟨rfl,hA',hF⟩;have hsz:=hF.size;have HF:=aH hF;have HA:=aH hA';clear hA' hF;go_wp2;go_ret2;have g1:=(am.new w1 (cq n fun _ _=>0).toArray 138).alloc (.cells #[some ab,((A.taken:Int)+1:Int),.slice (some ⟨w1.heap.size,0,none⟩) n n] 153);have g2:=am.new (w1.alloc (.cells (cq n fun _ _=>0).toArray 138)) #[some ab,((A.taken:Int)+1:Int),.slice (some ⟨w1.heap.size,0,none⟩) n n] 153;rw[World.size_alloc] at g2;refine⟨w1.heap.size+1,w1.heap.size,rfl,by omega,hsz,?_,(HF.o.alloc _).alloc _⟩;exact{box:=by simpa using g2,row:=by simpa using g1,ar:=HA.o.frm (S:=[]) ((aF.alloc _).alloc _) aS aS,ne:=by omega,n1:=hn1,n32:=hn,tb:=by omega}
theorem uF (i:Int) (w:World):Calls prog 62 #[i] w fun e w'=>e= .returned (.bool (decide (1≤i)&&decide (i≤32)))∧w=w':=by
 by_cases h1:1≤i
 ·by_cases h2:i≤32
  ·have d1:decide (1≤i)=true:=by simpa using h1
   have d2:decide (i≤32)=true:=by simpa using h2
   rw[d1,d2];go_enter func62,ntmps62;go_wp2;go_ret;exact⟨rfl,rfl⟩
  ·have d1:decide (1≤i)=true:=by simpa using h1
   have d2:decide (i≤32)=false:=by simpa using h2
   rw[d1,d2];go_enter func62,ntmps62;go_wp2;go_ret;exact⟨rfl,rfl⟩
 ·have d1:decide (1≤i)=false:=by simpa using h1
  rw[d1];go_enter func62,ntmps62;go_wp2;go_ret;exact⟨rfl,rfl⟩
theorem BA (hA:aj w ab wb A) (n parts:Nat) (hn1:1≤n) (hn:n≤32) (hp1:1≤parts) (hp:parts≤32) (ht:A.takeE (1+(parts:Int))=0):
 Calls prog 51 #[some ab,n,parts] w fun e w'=>∃lb sb,e= .returned (.tuple #[some lb,(0:Int)])∧w.heap.size≤lb∧w.heap.size≤sb∧
  cH w' lb sb ab wb (A.taken+1) parts n ((A.take (1+(parts:Int))).store (b6 (A.taken+1) parts 0) 1) (fun _ _=>0)∧ae [ab,wb] w w':=by
 have hm1:=fun W=>uF (n:Int) W;have hm2:=fun W=>uF (parts:Int) W;rw[show(decide (1≤(n:Int))&&decide ((n:Int)≤32))=true from by simp;omega] at hm1;rw[show(decide (1≤(parts:Int))&&decide ((parts:Int)≤32))=true from by simp;omega] at hm2;have HM1:=aH hm1;have HM2:=aH hm2;have mk:=dZ n aO;have hT:=cY hA (1+(parts:Int));have hn':A.takeN (1+(parts:Int))=(A.taken:Int)+1:=by unfold AR.takeN;rw[if_pos ht]
 rw[ht,hn'] at hT;have HT:=aH hT;have hab:=hA.box.lt;have hwb:=hA.row.lt;have hroom:=hA.room;have hrm:=lw (m:=1+parts) aO ht aO;have hnot:= @aX prog;clear hA hT hn' ht hm1 hm2;go_enter func51,ntmps51;go_wp2_with fail;refine(HM1.o _).mono ?_;rintro e w' ⟨rfl,rfl⟩;go_wp2_with fail;refine(HM2.o _).mono ?_;rintro e w' ⟨rfl,rfl⟩;go_wp2_with fail;refine(HT.o).mono ?_;rintro e w1 ⟨rfl,hA',hF⟩;have hsz:=hF.size;have HF:=aH hF;have HA:=aH hA';clear hA' hF;have g1:=(am.new w1 (cq n fun _ _=>0).toArray 138).alloc (.cells #[some ab,((A.taken:Int)+1:Int),parts,.slice (some ⟨w1.heap.size,0,none⟩) n n] 150);have g2:=am.new (w1.alloc (.cells (cq n fun _ _=>0).toArray 138)) #[some ab,((A.taken:Int)+1:Int),parts,.slice (some ⟨w1.heap.size,0,none⟩) n n] 150;rw[World.size_alloc] at g2;have hP:cH ((w1.alloc (.cells (cq n fun _ _=>0).toArray 138)).alloc (.cells #[some ab,((A.taken:Int)+1:Int),parts,.slice (some ⟨w1.heap.size,0,none⟩) n n] 150)) (w1.heap.size+1) w1.heap.size ab wb (A.taken+1) parts n (A.take (1+(parts:Int))) (fun _ _=>0):=
  {box:=by simpa using g2,row:=by simpa using g1,ar:=HA.o.frm (S:=[]) ((aF.alloc _).alloc _) aS aS,ne:=by omega,n1:=hn1,n32:=hn,tb:=by omega,q1:=hp1,q2:=hp}
 have hFF:=(HF.o.alloc (.cells (cq n fun _ _=>0).toArray 138)).alloc (.cells #[some ab,((A.taken:Int)+1:Int),parts,.slice (some ⟨w1.heap.size,0,none⟩) n n] 150);have HP:=aH hP;have HFF:=aH hFF;have HPL:=aH (km hP 0);clear hP hFF g1 g2;go_wp2_with fail;refine HPL.o.mono ?_;rintro e W2 ⟨rfl,hF2⟩;have HF2:=aH hF2;have HP2:=aH (HP.o.frm hF2 aS);clear hF2;go_wp2_with fail;refine(au HP2.o.ar _ 1).mono ?_;rintro e W3 ⟨rfl,hA3,hF3⟩;have HP3:=aH (HP2.o.ar_ hF3 hA3);have HF3:=aH ((HFF.o.trans (HF2.o.mono aS)).trans hF3);clear hA3 hF3;go_wp2;go_ret2;exact⟨w1.heap.size+1,w1.heap.size,rfl,by omega,hsz,HP3.o,HF3.o⟩
def xn:Nat→Nat→Int:=fun i t=>if t=1 then(i:Int)+1 else 0
theorem C9 (n:Nat):cq (n+1) xn=cq n xn++[.int .i64 0,.int .i64 ((n:Int)+1),.int .i64 0,.int .i64 0]:=by
 unfold cq;rw[show 4*(n+1)=4*n+1+1+1+1 by omega];simp only[List.range_succ,List.map_append,List.map_cons,List.map_nil,List.append_assoc,List.cons_append,List.nil_append];unfold xn;rw[show 4*n/4=n by omega,show 4*n%4=0 by omega,show(4*n+1)/4=n by omega,show(4*n+1)%4=1 by omega,show(4*n+1+1)/4=n by omega,show(4*n+1+1)%4=2 by omega,show(4*n+1+1+1)/4=n by omega,show(4*n+1+1+1)%4=3 by omega];simp
theorem jH (w:World) (a b c d:Value) (T:TypeId):∀(j:Nat) (u:Value),[a,b,c,d][j]? =some u→(w.alloc (.cells #[a,b,c,d] T)).cell? ((⟨w.heap.size,0,none⟩:Addr).add j)=some u:=by
 intro j u hu;have h:=am.new w #[a,b,c,d] T;have e:(⟨w.heap.size,0,none⟩:Addr).add j=⟨w.heap.size,j,none⟩:=by
  unfold Addr.add
  split
  ·rename_i h0;subst h0;rfl
  ·simp
 rw[e];exact h.cell hu
theorem rQ {w:World} {base size k:Nat} {e:TypeId} {v:Value} {xs:List Value} (h:w.ownsRow base e size v k xs):∀j,v.ownBlock=some j→base≤j:=by
 rcases h.2 with⟨rfl,_⟩|⟨g,cap,cur,rfl,hg,_⟩
 ·intro k hk;simp[Value.ownBlock] at hk
 ·intro k hk;simp[Value.ownBlock] at hk;omega
theorem b9 {w:World} {base size k:Nat} {e:TypeId} {v:Value} {xs:List Value} (h:w.ownsRow base e size v k xs):∃a l c,v= .slice a l c:=by
 rcases h.2 with⟨rfl,_⟩|⟨g,cap,cur,rfl,hg,_⟩
 ·exact⟨_,_,_,rfl⟩
 ·exact⟨_,_,_,rfl⟩
theorem tc {w w':World} {base size k:Nat} {e:TypeId} {v:Value} {xs:List Value} (h:w.ownsRow base e size v k xs) {S:List Nat} (hf:ae S w w') (hs:∀k∈S,k<base):w'.ownsRow base e size v k xs:=by
 obtain⟨h1,h2⟩:=h;refine⟨h1,?_⟩;rcases h2 with h2|⟨g,cap,cur,hv,hg,hh,r⟩
 ·exact .inl h2
 ·refine .inr ⟨g,cap,cur,hv,hg,?_,r⟩;rw[hf.block g (Array.getElem?_eq_some_iff.1 hh).1 (fun hm=>by have:=hs g hm;omega)];exact hh
theorem Cm (hA:aj w ab wb A) (n:Nat) (hn1:1≤n) (hn:n≤32) (ht:A.takeE ((n:Int)+2)=0):
 Calls prog 53 #[some ab,n] w fun e w'=>∃lb sb X,e= .returned (.tuple #[some lb,(0:Int)])∧w.heap.size≤lb∧w.heap.size≤sb∧
  cZ w' lb sb ab wb (A.taken+1) n X ((A.take ((n:Int)+2)).store ((A.taken:Int)+1) ((n:Int)+1)) xn∧ae [ab,wb] w w':=by
 obtain⟨i0,hi,hz0,hz1,hz2⟩:=info_parts rD;have HIN:=aH (And.intro hi (And.intro hz0 (And.intro hz1 hz2)));clear hi hz0 hz1 hz2;have d1:decide ((n:Int)<1)=false:=by simp;omega
 have d2:decide ((32:Int)<n)=false:=by simp;omega
 have hT:=cY hA ((n:Int)+2);have hn':A.takeN ((n:Int)+2)=(A.taken:Int)+1:=by unfold AR.takeN;rw[if_pos ht]
 rw[ht,hn'] at hT;have HT:=aH hT;have hab:=hA.box.lt;have hwb:=hA.row.lt;have hroom:=hA.room;have hrm:=lw (m:=n+2) aO ht aO;have HNE:=aH hA.ne;clear hA hT hn' ht;go_enter func53,ntmps53;go_wp2_with fail;refine(HT.o).mono ?_;rintro e w1 ⟨rfl,hA',hF⟩;have hsz:=hF.size;have HF:=aH hF;have HA:=aH hA';have hab1:ab<w1.heap.size:=by omega
 have hwb1:wb<w1.heap.size:=by omega
 clear hA' hF;go_wp2_with fail;have g2:=am.new w1 #[some ab,((A.taken:Int)+1:Int),.slice none 0 0] 155;have G2:=aH g2;clear g2;go_loopw[31] (fun iv wx=>∃k:Nat,iv= .int .i64 k∧k≤n∧(∃v,am wx w1.heap.size [some ab,((A.taken:Int)+1:Int),v] 155∧wx.ownsRow (w1.heap.size+1) 138 4 v k (cq k xn))∧ae [] w1 wx) (fun iv _=>n - (intOf iv).toNat)
 case atStart=>exact⟨0,rfl,Nat.zero_le _,⟨_,G2.o,World.ownsRow_nil _ _ _ _⟩,aF.alloc _⟩
 case round=>
  obtain⟨k,rfl,hk,⟨v,hB,hO⟩,hF⟩:=hrel;have hszr:=hF.size;have c0:=hB.cell (i:=0) rfl;have c2:=hB.cell (i:=2) rfl;have cz:=hB.frozen;have HB:=aH hB;have HO:=aH hO;have HF2:=aH hF;have hblt:=hB.lt;clear hB hO hF;by_cases hlt:k<n
  ·have l1:(k:Int)<n:=by omega
   have hb:∀j,v.ownBlock=some j→w1.heap.size+1≤j:=rQ HO.o;have HOA:=aH (fun o:Obj=>HO.o.alloc o);have hsA:∀o:Obj,(wr.alloc o).heap.size=wr.heap.size+1:=World.size_alloc wr;go_wp2_with(at_builtin;go_must(refine wpList_append_own _ rfl _ _ 142 rfl (w1.heap.size+1) 138 i0 (.agg #[(0:Int),(0:Int),(0:Int),(0:Int)]) 4 32 underlying142 HIN.o.1 HIN.o.2.1 HIN.o.2.2.1 HIN.o.2.2.2 rfl aJ v k _ rfl (HO.o.alloc _) ⟨wr.heap.size,0,none⟩ 1 1 [(0:Int),((k:Int)+1:Int),(0:Int),(0:Int)] rfl rfl (jH _ _ _ _ _ _) aC aM aO (by rw[World.size_alloc];omega) ?_;intro v' w2 hown' hgrow _;obtain⟨va,vl,vc,rfl⟩:=b9 hown';have HB2:=aH ((HB.o.alloc (.cells #[(0:Int),((k:Int)+1:Int),(0:Int),(0:Int)] 138)).frm (S:=v.ownBlock.toList) (ae.of_grown hgrow (fun k hk=>.inl (by simpa using hk.symm ▸ rfl))) (fun hm=>by have:=hb _ (by simpa using hm);omega));have hF2:ae [] w1 w2:=(HF2.o.alloc _).widen (S':=v.ownBlock.toList) (ae.of_grown hgrow (fun k hk=>.inl (by simpa using hk.symm ▸ rfl))) (fun k hk=>.inr (by have:=hb k (by simpa using hk);omega));have HO2:=aH hown';have HF3:=aH hF2;have k2:=HB2.o.cell (i:=2) rfl;have kz:=HB2.o.frozen;have HB3:=aH (HB2.o.set 2 (.slice va vl vc));have HO3:=aH (tc HO2.o ((ae.refl [w1.heap.size] w2).set ⟨w1.heap.size,2,none⟩ (.slice va vl vc) (.inl aS)) aS);have HF4:=aH (HF3.o.set ⟨w1.heap.size,2,none⟩ (.slice va vl vc) (.inr (Nat.le_refl _)));clear hown' hgrow hF2 hb))
   go_roundw
   case rel=>exact⟨k+1,by go_num,by omega,⟨_,HB3.o,by rw[C9];exact HO3.o⟩,HF4.o⟩
   case measure=>simp[intOf];omega
  ·have l1:¬(k:Int)<n:=by omega
   obtain rfl:k=n:=by omega
   have hA2:=HA.o.frm (S:=[]) HF2.o aS aS;have HST:=aH (au hA2 ((A.taken:Int)+1) ((k:Int)+1));clear hA2;go_wp2_with fail;refine HST.o.mono ?_;rintro e w3 ⟨rfl,hA3,hF3⟩;have HA3:=aH hA3;have HF3:=aH hF3;clear hA3 hF3;go_wp2;go_ret2;obtain⟨h1,h2⟩:=HO.o;rcases h2 with⟨_,h2⟩|⟨g,cap,cur,hv,hg,hh,hkc,hc1,hc2,htk⟩
   ·omega
   ·subst hv;have hrow:am wr g (cq k xn++cur.toList.drop (k*4)) 138:=by
     unfold am;rw[←htk,List.take_append_drop];exact hh
    refine⟨w1.heap.size,g,(cap,cur.toList.drop (k*4)),rfl,hsz,by omega,?_,HF.o.trans ((HF2.o.mono aS).trans HF3.o)⟩;exact{box:=by have:=HB.o.frm HF3.o aQ;simpa using this,row:=hrow.frm HF3.o aQ,ar:=HA3.o,ne:=by omega,n1:=hn1,n32:=hn,tb:=by omega}
end
structure PI (b parts n:Nat) (S:Nat→Nat→Int) (A:AR) (V:Int):Prop where
 tk:TK n S V (A.get b)
 no:A.get b≤A.ops
 le:∀p:Int,0≤p→p<(parts:Int)→A.get ((b:Int)+1+p)≤V+1
 at_:A.get ((b:Int)+1+V.tmod parts)=V+1
section
variable{b parts n:Nat} {S:Nat→Nat→Int} {A B:AR} {V:Int}
theorem yT (hb:b≤4096) (hp:1≤parts∧parts≤32) {t:Int} (ht:0≤t):b6 b parts t=(b:Int)+1+t.tmod parts∧0≤t.tmod parts∧t.tmod parts<parts:=by
 have hm:=Int.tmod_lt_of_pos t (show(0:Int)<parts by omega);have hm2:=Int.tmod_nonneg (parts:Int) ht;refine⟨?_,hm2,hm⟩;unfold b6;rw[cW (x:=(b:Int)+1) aO,cW aO]
theorem PI.step (h:PI b parts n S A V) (hf:A.Fit) (hl:A.ops<1000000000) (hb:1≤b) (hp:1≤parts∧parts≤32) (hr:b+(1+parts)≤A.taken+1) {j:Nat} (hj:j<n):
 (∃V',PI b parts n (jO n b parts S A j) (iK n b parts S A j) V')∧jg b (1+parts) A (iK n b parts S A j)∧(S j 0=1→(iK n b parts S A j).ops=A.ops+1)∧lC S (jO n b parts S A j) j (lP n b parts S A j):=by
 have i0:A.has b=true:=bA.2 aO;have hv:=h.tk.v0;have hvn:=h.tk.vn;have hno:=h.no;have ht:=hf.2.1;have hl2:=hf.1;have hof:=hf.2.2;have hrm:A.addRes b 1=A.get b+1:=by unfold AR.addRes;rw[if_pos i0];exact cW aO
 unfold jO iK lP;rw[bP hj];simp only[if_true,Bool.true_and,Int.toNat_natCast];have hpl:∀t:Int,0≤t→∃m:Int,(t.tmod parts=m∧b6 b parts t=(b:Int)+1+m)∧0≤m∧m<parts:=fun t h0=>by
  obtain⟨a1,a2,a3⟩:=yT (b:=b) (parts:=parts) aO hp h0;exact⟨_,⟨rfl,a1⟩,a2,a3⟩
 rcases h.tk.pcs j hj with q|q|q|q|q
 ·simp only[q,Int.reduceEq,if_true,if_false,decide_true,decide_false];exact⟨⟨V,h⟩,jg.refl _ _ _,by simp,⟨fun _ _=>rfl,by simp[q],by simp[q],by simp[q]⟩⟩
 ·simp only[q,Int.reduceEq,if_true,if_false,decide_true,decide_false];obtain⟨o1,o2⟩:=zv (b:=b) (m:=1+parts) (d:=1) hf i0 aO aO;have g:=fun k=>qH (A:=A) (i:=b) (d:=1) (j:=k) hf.1 i0;have e:wrap64 (A.addRes b 1 - 1)=A.get b:=by rw[hrm];exact(cW aO).trans aO
  have hfar:∀p:Int,0≤p→(A.add b 1).get ((b:Int)+1+p)=A.get ((b:Int)+1+p):=fun p h0=>by rw[g,if_neg aO]
  rw[e];have hm2:=Int.tmod_nonneg (parts:Int) hv;refine⟨⟨V,⟨?_,?_,fun p h1 h2=>by rw[hfar p h1];exact h.le p h1 h2,by rw[hfar _ hm2];exact h.at_⟩⟩,o1,fun _=>o2,⟨fun k hk=>?_,?_,by omega,by omega⟩⟩
  ·rw[g,if_pos rfl,cW aO];exact h.tk.draw hj q
  ·rw[g,if_pos rfl,cW aO,o2];omega
  ·rw[bw,if_neg (by simp[hk]),bw,if_neg (by simp[hk])]
  ·intro _ _;rw[bw,if_pos aS];simp
 ·have hrg:=h.tk.rng j hj aO;obtain⟨m,⟨_,ep⟩,e1,e2⟩:=hpl (S j 1) aO;simp only[ep];clear ep;have i1:A.has ((b:Int)+1+m)=true:=bA.2 aO;obtain⟨o1,o2⟩:=gc (b:=b) (m:=1+parts) hf i1 aO aO;have hk:∀T:Nat→Nat→Int,TK n T V (A.get b)→PI b parts n T (A.load ((b:Int)+1+m)) V:=fun T hT=>⟨by rw[cB];exact hT,by rw[cB,o2];omega,fun p h1 h2=>by rw[cB];exact h.le p h1 h2,by rw[cB];exact h.at_⟩
  have hw:wrap64 (S j 1+1)=S j 1+1:=cW aO;simp only[q,Int.reduceEq,if_true,if_false,decide_true,decide_false];by_cases c:A.get ((b:Int)+1+m)=wrap64 (S j 1+1)
  ·have hle:=h.le _ e1 e2;rw[c,hw] at hle;simp only[c,if_true,decide_true];refine⟨⟨V,hk _ (h.tk.turn hj aO aO aO)⟩,o1,by omega,⟨fun k hk=>?_,?_,by omega,by omega⟩⟩
   ·rw[bw,if_neg (by simp[hk])]
   ·intro _ _;rw[bw,if_pos aS];simp
  ·simp only[c,if_false,decide_false];exact⟨⟨V,hk _ h.tk⟩,o1,by simp,⟨fun _ _=>rfl,by simp[q],by simp[q],by simp[q]⟩⟩
 ·simp only[q,Int.reduceEq,if_true,if_false,decide_true,decide_false];exact⟨⟨V,h⟩,jg.refl _ _ _,by simp,⟨fun _ _=>rfl,by simp[q],by simp[q],by simp[q]⟩⟩
 ·have hj1:S j 1=V:=h.tk.top j hj aO;obtain⟨hfr,hlt⟩:=h.tk.free hj aO;have hw1:wrap64 (S j 1+1)=V+1:=by rw[hj1];exact cW aO
  have hw2:wrap64 (S j 1+2)=V+2:=by rw[hj1];exact cW aO
  obtain⟨m,⟨em,ep⟩,e1,e2⟩:=hpl (V+1) aO;simp only[q,Int.reduceEq,if_true,if_false,decide_true];rw[hw1,hw2,ep];clear ep;have i1:A.has ((b:Int)+1+m)=true:=bA.2 aO;obtain⟨o1,o2⟩:=cM (b:=b) (m:=1+parts) (v:=V+2) hf i1 aO aO;have g:=fun k=>ch (A:=A) (i:=(b:Int)+1+m) (v:=V+2) (j:=k) hf.1 i1;refine⟨⟨V+1,⟨?_,?_,fun p h1 h2=>?_,?_⟩⟩,o1,by simp,⟨fun k hk=>?_,by omega,?_,by omega⟩⟩
  ·rw[g,if_neg aO];exact hfr
  ·rw[g,if_neg aO,o2];omega
  ·rw[g];have:=h.le p h1 h2
   split<;>omega
  ·rw[em,g,if_pos rfl];omega
  ·rw[bw,if_neg (by simp[hk])]
  ·intro _;rw[bw,if_pos aS];simp
end
structure TI (b n:Nat) (S:Nat→Nat→Int) (A:AR):Prop where
 pcs:∀j,j<n→S j 0=0∨S j 0=1∨S j 0=2∨S j 0=10∨S j 0=11
 own:∀j,j<n→10≤S j 0→A.get b=(j:Int)+1
section
variable{b n:Nat} {S:Nat→Nat→Int} {A B:AR} {most:Int}
theorem TI.one (h:TI b n S A) {j k:Nat} (hj:j<n) (hk:k<n) (h1:10≤S j 0) (h2:10≤S k 0):j=k:=by
 have:=h.own j hj h1;have:=h.own k hk h2;omega
theorem TI.turn {T:Nat→Nat→Int} (h:TI b n S A) (j:Nat) (hT:∀k,k≠j→T k 0=S k 0) (hp:T j 0=0∨T j 0=1∨T j 0=2∨T j 0=10∨T j 0=11) (hw:∀k,k<n→k≠j→10≤S k 0→B.get b=A.get b) (ho:10≤T j 0→B.get b=(j:Int)+1):TI b n T B:=
 ⟨fun k hk=>by
  by_cases e:k=j
  ·rw[e];exact hp
  ·rw[hT k e];exact h.pcs k hk,fun k hk hc=>by
  by_cases e:k=j
  ·subst e;exact ho hc
  ·rw[hT k e] at hc;rw[hw k hk e hc];exact h.own k hk hc⟩
theorem TI.step (h:TI b n S A) (hf:A.Fit) (hl:A.ops<1000000000) (hb:1≤b) (hr:b+1≤A.taken+1) {j:Nat} (hj:j<n):
 TI b n (jU n b most S A j) (iW n b S A j)∧jg b 1 A (iW n b S A j)∧(S j 0=1→(iW n b S A j).ops=A.ops+1)∧lC S (jU n b most S A j) j (me n b S A j):=by
 have i0:A.has b=true:=bA.2 aO;unfold jU iW me;rw[bP hj];simp only[if_true,Bool.true_and,Int.toNat_natCast];rcases h.pcs j hj with q|q|q|q|q
 ·simp only[q,Int.reduceEq,if_true,if_false,decide_true,decide_false];exact⟨h,jg.refl _ _ _,by simp,⟨fun _ _=>rfl,by simp[q],by simp[q],by simp[q]⟩⟩
 ·simp only[q,Int.reduceEq,if_true,if_false,decide_true,decide_false];obtain⟨o1,o2⟩:=tM (b:=b) (m:=1) (o:=0) (v:=(j:Int)+1) hf i0 aO aO;have g:=fun k=>ni (A:=A) (i:=b) (o:=0) (v:=(j:Int)+1) (j:=k) hf.1 i0;cases c:A.casOk b 0 with
  |true=>
   have c':=(mp i0).1 c;simp only[if_true];have hs:∀k,k≠j→ac S j 0 10 k 0=S k 0:=fun k hk=>by rw[bw,if_neg (by simp[hk])]
   have e0:ac S j 0 10 j 0=10:=by rw[bw,if_pos aS]
   refine⟨h.turn j hs aO (fun k hk _ hc=>by have:=h.own k hk hc;omega) (fun _=>by rw[g,if_pos ⟨rfl,c'⟩]),o1,fun _=>o2,⟨hs,fun _ _=>by rw[e0];simp,by omega,by omega⟩⟩
  |false=>
   have c':A.get b≠0:=fun e=>by rw[(mp i0).2 e] at c;simp at c
   simp only[Bool.false_eq_true,if_false];have hs:∀k,k≠j→ac (ac (ac S j 0 2) j 2 (S j 1)) j 1 (ed most (S j 1)) k 0=S k 0:=fun k hk=>by rw[bw,if_neg (by simp[hk]),bw,if_neg (by simp[hk]),bw,if_neg (by simp[hk])]
   have e0:ac (ac (ac S j 0 2) j 2 (S j 1)) j 1 (ed most (S j 1)) j 0=2:=by rw[bw,if_neg aS,bw,if_neg aS,bw,if_pos aS]
   refine⟨h.turn j hs aO (fun k hk _ hc=>by rw[g,if_neg (fun e=>c' e.2)]) (fun hc=>by omega),o1,fun _=>o2,⟨hs,fun _ _=>by rw[e0];simp,by omega,by omega⟩⟩
 ·simp only[q,Int.reduceEq,if_true,if_false,decide_true,decide_false];by_cases c:wrap64 (S j 2 - 1)=0
  ·simp only[c,if_true];have hs:∀k,k≠j→ac (ac S j 2 0) j 0 1 k 0=S k 0:=fun k hk=>by rw[bw,if_neg (by simp[hk]),bw,if_neg (by simp[hk])]
   have e0:ac (ac S j 2 0) j 0 1 j 0=1:=by rw[bw,if_pos aS]
   refine⟨h.turn j hs aO (fun _ _ _ _=>rfl) (fun hc=>by omega),jg.refl _ _ _,by simp,⟨hs,fun _ _=>by rw[e0];simp,by omega,by omega⟩⟩
  ·simp only[c,if_false];have hs:∀k,ac S j 2 (wrap64 (S j 2 - 1)) k 0=S k 0:=fun k=>by rw[bw,if_neg aS]
   have e0:=hs j;refine⟨h.turn j (fun k _=>hs k) aO (fun _ _ _ _=>rfl) (fun hc=>by omega),jg.refl _ _ _,by simp,⟨fun k _=>hs k,fun _ _=>by rw[e0,q];simp,by omega,by omega⟩⟩
 ·simp only[q,Int.reduceEq,if_true,if_false,decide_true,decide_false];exact⟨h,jg.refl _ _ _,by simp,⟨fun _ _=>rfl,by simp[q],by simp[q],by simp[q]⟩⟩
 ·obtain⟨o1,o2⟩:=cM (b:=b) (m:=1) (v:=0) hf i0 aO aO;simp only[q,Int.reduceEq,if_true,if_false,decide_true,decide_false];have hs:∀k,k≠j→ac S j 0 0 k 0=S k 0:=fun k hk=>by rw[bw,if_neg (by simp[hk])]
  have e0:ac S j 0 0 j 0=0:=by rw[bw,if_pos aS]
  refine⟨h.turn j hs aO (fun k hk hkj hc=>absurd (h.one hk hj hc aO) hkj) (fun hc=>by omega),o1,by simp,⟨hs,by omega,fun _=>by rw[e0];simp,by omega⟩⟩
end
def Ch (S:Nat→Nat→Int) (tl:Int):Int→List Nat→Prop
 |f,[]=>tl=f
 |f,q::r=>S q 2=f∧Ch S tl (S q 1) r
section
variable{S T:Nat→Nat→Int} {tl tl':Int}
theorem Ch.congr:∀{Q:List Nat} {f:Int},Ch S tl f Q→(∀q∈Q,T q 1=S q 1∧T q 2=S q 2)→Ch T tl f Q
 | [],_,h,_=>h
 |q::r,f,h,hq=>by
  have e:=hq q aS;refine⟨by rw[e.2];exact h.1,?_⟩;rw[e.1];exact Ch.congr h.2 fun k hk=>hq k (List.mem_cons_of_mem _ hk)
theorem Ch.append {j:Nat} (h2:S j 2=tl) (h1:S j 1=tl'):∀{Q:List Nat} {f:Int},Ch S tl f Q→Ch S tl' f (Q++[j])
 | [],f,h=>⟨h2.trans h,h1.symm⟩
 |q::r,f,h=>⟨h.1,Ch.append h2 h1 h.2⟩
theorem Ch.pred {q:Nat}:∀{Q:List Nat} {f:Int},Ch S tl f Q→q∈Q→(S q 2=f∧∃r,Q=q::r)∨∃p∈Q,S q 2=S p 1
 | [],_,_,hq=>by simp at hq
 |a::r,f,h,hq=>by
  rcases List.mem_cons.1 hq with e|hq
  ·subst e;exact .inl ⟨h.1,r,rfl⟩
  ·rcases Ch.pred h.2 hq with⟨h1,_⟩|⟨p,hp,e⟩
   ·exact .inr ⟨a,by simp,h1⟩
   ·exact .inr ⟨p,List.mem_cons_of_mem _ hp,e⟩
end
structure HI (b n:Nat) (S:Nat→Nat→Int) (A:AR) (Q:List Nat) (f:Int):Prop where
 nd:Q.Nodup
 lt:∀j∈Q,j<n
 mem:∀j,j<n→(j∈Q↔3≤S j 0)
 pcs:∀j,j<n→S j 0=0∨S j 0=1∨S j 0=2∨S j 0=3∨S j 0=10∨S j 0=11
 box:∀j,j<n→1≤S j 1∧S j 1≤(n:Int)+1
 fb:1≤f∧f≤(n:Int)+1
 inj:∀j k,j<n→k<n→S j 1=S k 1→j=k
 fne:∀j,j<n→S j 1≠f
 chain:Ch S (A.get b) f Q
 free:A.get ((b:Int)+f)=0
 set:∀j,j<n→2≤S j 0→A.get ((b:Int)+S j 1)=1
 hold:∀j,j<n→10≤S j 0→S j 2=f
section
variable{b n:Nat} {S T:Nat→Nat→Int} {A B:AR} {Q:List Nat} {f:Int}
theorem HI.frame (h:HI b n S A Q f) (hg:∀i:Int,(b:Int)≤i→i<(b:Int)+((n+2:Nat):Int)→B.get i=A.get i):HI b n S B Q f:=by
 have:=h.fb;exact{h with chain:=by rw[hg _ aO aO];exact h.chain,free:=by rw[hg _ aO aO];exact h.free,set:=fun j hj hc=>by have:=h.box j hj;rw[hg _ aO aO];exact h.set j hj hc}
theorem HI.first (h:HI b n S A Q f) {j:Nat} (hj:j<n) (h1:3≤S j 0) (h2:S j 2=f):∃r,Q=j::r:=by
 rcases h.chain.pred ((h.mem j hj).2 h1) with⟨_,e⟩|⟨p,hp,e⟩
 ·exact e
 ·exact absurd (e.symm.trans h2) (h.fne p (h.lt p hp))
theorem HI.one (h:HI b n S A Q f) {j k:Nat} (hj:j<n) (hk:k<n) (h1:10≤S j 0) (h2:10≤S k 0):j=k:=by
 obtain⟨r,e1⟩:=h.first hj aO (h.hold j hj h1);obtain⟨r',e2⟩:=h.first hk aO (h.hold k hk h2);rw[e1] at e2;exact(List.cons.inj e2).1
theorem HI.ahead (h:HI b n S A Q f) {j:Nat} (hj:j<n) (h1:3≤S j 0):(1≤S j 2∧S j 2≤(n:Int)+1)∧(A.get ((b:Int)+S j 2)=0→S j 2=f):=by
 rcases h.chain.pred ((h.mem j hj).2 h1) with⟨e,_⟩|⟨p,hp,e⟩
 ·exact⟨by rw[e];exact h.fb,fun _=>e⟩
 ·rw[e];refine⟨h.box p (h.lt p hp),fun h0=>?_⟩;have:=h.set p (h.lt p hp) (by have:=(h.mem p (h.lt p hp)).1 hp;omega);omega
theorem HI.turn (h:HI b n S A Q f) {j:Nat} (hj:j<n) {pc:Int} (hp:pc=0∨pc=1∨pc=2∨pc=3∨pc=10∨pc=11) (hq:3≤pc↔3≤S j 0) (hw:10≤pc→S j 2=f)
 (ht:B.get b=A.get b) (hfr:B.get ((b:Int)+f)=0) (hs:∀k,k<n→k≠j→2≤S k 0→B.get ((b:Int)+S k 1)=1) (hb:2≤pc→B.get ((b:Int)+S j 1)=1):HI b n (ac S j 0 pc) B Q f:=by
 have hk0:∀k,k≠j→ac S j 0 pc k 0=S k 0:=fun k hk=>by rw[bw,if_neg (by simp[hk])]
 have e0:ac S j 0 pc j 0=pc:=by rw[bw,if_pos aS]
 have e1:∀k,ac S j 0 pc k 1=S k 1:=fun k=>by rw[bw,if_neg aS]
 have e2:∀k,ac S j 0 pc k 2=S k 2:=fun k=>by rw[bw,if_neg aS]
 generalize ac S j 0 pc=T at*;refine{nd:=h.nd,lt:=h.lt,mem:=fun k hk=>?_,pcs:=fun k hk=>?_,box:=fun k hk=>?_,fb:=h.fb,inj:=fun a c ha hc he=>?_,fne:=fun k hk=>?_,chain:=?_,free:=hfr,set:=fun k hk hc=>?_,hold:=fun k hk hc=>?_}
 ·by_cases e:k=j
  ·subst e;rw[e0,hq];exact h.mem k hk
  ·rw[hk0 k e];exact h.mem k hk
 ·by_cases e:k=j
  ·subst e;omega
  ·rw[hk0 k e];exact h.pcs k hk
 ·rw[e1];exact h.box k hk
 ·rw[e1,e1] at he;exact h.inj a c ha hc he
 ·rw[e1];exact h.fne k hk
 ·rw[ht];exact h.chain.congr fun q _=>⟨e1 q,e2 q⟩
 ·rw[e1];by_cases e:k=j
  ·subst e;exact hb aO
  ·rw[hk0 k e] at hc;exact hs k hk e hc
 ·rw[e2];by_cases e:k=j
  ·subst e;exact hw aO
  ·rw[hk0 k e] at hc;exact h.hold k hk hc
theorem HI.enq (h:HI b n S A Q f) {j:Nat} (hj:j<n) (h0:S j 0=2) (ht:B.get b=S j 1) (hw:∀x:Int,1≤x→x≤(n:Int)+1→B.get ((b:Int)+x)=A.get ((b:Int)+x)):HI b n (ac (ac S j 2 (A.get b)) j 0 3) B (Q++[j]) f:=by
 have hs:∀k,k≠j→∀t,ac (ac S j 2 (A.get b)) j 0 3 k t=S k t:=fun k hk t=>by rw[bw,bw,if_neg (by simp[hk]),if_neg (by simp[hk])]
 have e0:ac (ac S j 2 (A.get b)) j 0 3 j 0=3:=by rw[bw,if_pos aS]
 have e1:∀k,ac (ac S j 2 (A.get b)) j 0 3 k 1=S k 1:=fun k=>by rw[bw,if_neg aS,bw,if_neg aS]
 have e2:ac (ac S j 2 (A.get b)) j 0 3 j 2=A.get b:=by rw[bw,if_neg aS,bw,if_pos aS]
 generalize ac (ac S j 2 (A.get b)) j 0 3=T at*;have hno:j∉Q:=fun hm=>by have:=(h.mem j hj).1 hm;omega
 refine{nd:=?_,lt:=fun k hk=>?_,mem:=fun k hk=>?_,pcs:=fun k hk=>?_,box:=fun k hk=>?_,fb:=h.fb,inj:=fun a c ha hc he=>?_,fne:=fun k hk=>?_,chain:=?_,free:=?_,set:=fun k hk hc=>?_,hold:=fun k hk hc=>?_}
 ·rw[List.nodup_append];exact⟨h.nd,by simp,fun a ha c hc=>by simp at hc;subst hc;exact fun e=>hno (e ▸ ha)⟩
 ·rcases List.mem_append.1 hk with hk|hk
  ·exact h.lt k hk
  ·simp at hk;subst hk;exact hj
 ·by_cases e:k=j
  ·subst e;simp[e0]
  ·rw[hs k e,←h.mem k hk];simp[e]
 ·by_cases e:k=j
  ·subst e;omega
  ·rw[hs k e];exact h.pcs k hk
 ·rw[e1];exact h.box k hk
 ·rw[e1,e1] at he;exact h.inj a c ha hc he
 ·rw[e1];exact h.fne k hk
 ·rw[ht];refine Ch.append e2 (e1 j) (h.chain.congr fun q hq=>?_);have e:q≠j:=fun e=>hno (e ▸ hq);exact⟨hs q e 1,hs q e 2⟩
 ·rw[hw f h.fb.1 h.fb.2];exact h.free
 ·have hx:=h.box k hk;rw[e1,hw _ hx.1 hx.2];by_cases e:k=j
  ·subst e;exact h.set k hk aO
  ·rw[hs k e] at hc;exact h.set k hk hc
 ·have e:k≠j:=fun e=>by subst e;omega
  rw[hs k e] at hc;rw[hs k e];exact h.hold k hk hc
theorem HI.quit (h:HI b n S A Q f) {j:Nat} (hj:j<n) (h0:S j 0=11) (ht:B.get b=A.get b) (hz:B.get ((b:Int)+S j 1)=0) (hw:∀x:Int,1≤x→x≤(n:Int)+1→x≠S j 1→B.get ((b:Int)+x)=A.get ((b:Int)+x)):HI b n (ac (ac S j 1 (S j 2)) j 0 0) B Q.tail (S j 1):=by
 have hf:=h.hold j hj aO;obtain⟨r,rfl⟩:=h.first hj aO hf;rw[hf];have hs:∀k,k≠j→∀t,ac (ac S j 1 f) j 0 0 k t=S k t:=fun k hk t=>by rw[bw,bw,if_neg (by simp[hk]),if_neg (by simp[hk])]
 have e0:ac (ac S j 1 f) j 0 0 j 0=0:=by rw[bw,if_pos aS]
 have e1:ac (ac S j 1 f) j 0 0 j 1=f:=by rw[bw,if_neg aS,bw,if_pos aS]
 generalize ac (ac S j 1 f) j 0 0=T at*;have hnd:=List.nodup_cons.1 h.nd;have mT:∀k,k<n→k≠j→S k 1≠S j 1:=fun k hk e e'=>e (h.inj k j hk hj e');show HI b n T B r (S j 1);refine{nd:=hnd.2,lt:=fun k hk=>h.lt k (List.mem_cons_of_mem _ hk),mem:=fun k hk=>?_,pcs:=fun k hk=>?_,box:=fun k hk=>?_,fb:=h.box j hj,inj:=fun a c ha hc he=>?_,fne:=fun k hk=>?_,chain:=?_,free:=hz,set:=fun k hk hc=>?_,hold:=fun k hk hc=>?_}
 ·by_cases e:k=j
  ·subst e;simp[hnd.1,e0]
  ·rw[hs k e,←h.mem k hk];simp[e]
 ·by_cases e:k=j
  ·subst e;omega
  ·rw[hs k e];exact h.pcs k hk
 ·by_cases e:k=j
  ·subst e;rw[e1];exact h.fb
  ·rw[hs k e];exact h.box k hk
 ·by_cases ea:a=j
  ·by_cases ec:c=j
   ·omega
   ·subst ea;rw[e1,hs c ec] at he;exact absurd he.symm (h.fne c hc)
  ·by_cases ec:c=j
   ·subst ec;rw[e1,hs a ea] at he;exact absurd he (h.fne a ha)
   ·rw[hs a ea,hs c ec] at he;exact h.inj a c ha hc he
 ·by_cases e:k=j
  ·subst e;rw[e1];exact fun e'=>h.fne k hk e'.symm
  ·rw[hs k e];exact mT k hk e
 ·rw[ht];refine Ch.congr h.chain.2 fun q hq=>?_;have e:q≠j:=fun e=>hnd.1 (e ▸ hq);exact⟨hs q e 1,hs q e 2⟩
 ·have e:k≠j:=fun e=>by subst e;omega
  rw[hs k e] at hc;have hx:=h.box k hk;rw[hs k e,hw _ hx.1 hx.2 (mT k hk e)];exact h.set k hk hc
 ·have e:k≠j:=fun e=>by subst e;omega
  rw[hs k e] at hc;exact absurd (h.one hk hj hc aO) e
theorem mT (hb:b≤4096) (hn:n≤32) {x:Int} (h1:1≤x) (h2:x≤(n:Int)+1):fV b x=(b:Int)+x:=by unfold fV;exact cW aO
theorem HI.step (h:HI b n S A Q f) (hf:A.Fit) (hl:A.ops<1000000000) (hb:1≤b) (hn:n≤32) (hr:b+(n+2)≤A.taken+1) {j:Nat} (hj:j<n):
 (∃Q' f',HI b n (jP n b S A j) (iO n b S A j) Q' f')∧jg b (n+2) A (iO n b S A j)∧(S j 0=1→(iO n b S A j).ops=A.ops+1)∧lC S (jP n b S A j) j (lR n b S A j):=by
 have hl2:=hf.1;have hl3:=hf.2.1;have i0:A.has b=true:=bA.2 aO;have hx:=h.box j hj;have hbx:=fun{x:Int}=>mT (b:=b) (n:=n) (x:=x) aO hn;have hfb:=h.fb;have hfne:=h.fne j hj;unfold jP iO lR;rw[bP hj];simp only[if_true,Bool.true_and,Int.toNat_natCast];rcases h.pcs j hj with q|q|q|q|q|q
 ·simp only[q,Int.reduceEq,if_true,if_false,decide_true,decide_false];exact⟨⟨Q,f,h⟩,jg.refl _ _ _,by simp,⟨fun _ _=>rfl,by simp[q],by simp[q],by simp[q]⟩⟩
 ·simp only[q,Int.reduceEq,if_true,if_false,decide_true,decide_false];rw[hbx hx.1 hx.2];have i1:A.has ((b:Int)+S j 1)=true:=bA.2 aO;obtain⟨o1,o2⟩:=cM (b:=b) (m:=n+2) (v:=1) hf i1 aO aO;have g:=fun k=>ch (A:=A) (i:=(b:Int)+S j 1) (v:=1) (j:=k) hf.1 i1;refine⟨⟨Q,f,h.turn hj aO aO aO ?_ ?_ (fun k hk hkj hc=>?_) (fun _=>?_)⟩,o1,fun _=>o2,⟨fun k hk=>?_,fun _ _=>?_,by omega,by omega⟩⟩
  ·rw[g,if_neg aO]
  ·rw[g,if_neg aO];exact h.free
  ·have:S k 1≠S j 1:=fun e=>hkj (h.inj k j hk hj e);rw[g,if_neg aO];exact h.set k hk hc
  ·rw[g,if_pos rfl]
  ·rw[bw,if_neg (by simp[hk])]
  ·rw[bw,if_pos aS];simp
 ·obtain⟨o1,o2⟩:=qd (b:=b) (m:=n+2) (v:=S j 1) hf i0 aO aO;have g:=fun k=>kW (A:=A) (i:=b) (v:=S j 1) (j:=k) hf.1 i0;simp only[q,Int.reduceEq,if_true,if_false,decide_true,decide_false];refine⟨⟨Q++[j],f,h.enq hj q ?_ fun x h1 h2=>?_⟩,o1,by omega,⟨fun k hk=>?_,fun _ _=>?_,by omega,by omega⟩⟩
  ·rw[g,if_pos rfl]
  ·rw[g,if_neg aO]
  ·rw[bw,if_neg (by simp[hk]),bw,if_neg (by simp[hk])]
  ·rw[bw,if_pos aS];simp
 ·obtain⟨ha,hz⟩:=h.ahead hj aO;simp only[hbx ha.1 ha.2];have i1:A.has ((b:Int)+S j 2)=true:=bA.2 aO;obtain⟨o1,o2⟩:=gc (b:=b) (m:=n+2) hf i1 aO aO;simp only[q,Int.reduceEq,if_true,if_false,decide_true,decide_false];by_cases c:A.get ((b:Int)+S j 2)=0
  ·simp only[c,if_true,decide_true];refine⟨⟨Q,f,h.turn hj aO aO (fun _=>hz c) cB (cB.trans h.free) (fun k hk _ hc=>cB.trans (h.set k hk hc)) (fun _=>cB.trans (h.set j hj aO))⟩,o1,by omega,⟨fun k hk=>?_,fun _ _=>?_,by omega,by omega⟩⟩
   ·rw[bw,if_neg (by simp[hk])]
   ·rw[bw,if_pos aS];simp
  ·simp only[c,if_false,decide_false];exact⟨⟨Q,f,h.frame fun i _ _=>cB⟩,o1,by omega,⟨fun _ _=>rfl,by simp[q],by omega,by omega⟩⟩
 ·simp only[q,Int.reduceEq,if_true,if_false,decide_true,decide_false];exact⟨⟨Q,f,h⟩,jg.refl _ _ _,by simp,⟨fun _ _=>rfl,by simp[q],by simp[q],by simp[q]⟩⟩
 ·rw[hbx hx.1 hx.2];have i1:A.has ((b:Int)+S j 1)=true:=bA.2 aO;obtain⟨o1,o2⟩:=cM (b:=b) (m:=n+2) (v:=0) hf i1 aO aO;have g:=fun k=>ch (A:=A) (i:=(b:Int)+S j 1) (v:=0) (j:=k) hf.1 i1;simp only[q,Int.reduceEq,if_true,if_false,decide_true,decide_false];refine⟨⟨_,_,h.quit hj q ?_ ?_ fun x h1 h2 h3=>?_⟩,o1,by omega,⟨fun k hk=>?_,by omega,fun _=>?_,by omega⟩⟩
  ·rw[g,if_neg aO]
  ·rw[g,if_pos rfl]
  ·rw[g,if_neg aO]
  ·rw[bw,if_neg (by simp[hk]),bw,if_neg (by simp[hk])]
  ·rw[bw,if_pos aS];simp
end
section
variable{w:World} {lb ab wb sb next n:Nat} {S:Nat→Nat→Int} {A:AR}
theorem CY (hA:aj w ab wb A) (n:Nat) (hn1:1≤n) (hn:n≤32) (ht:A.takeE 2=0):
 Calls prog 50 #[some ab,n] w fun e w'=>∃lb sb,e= .returned (.tuple #[some lb,(0:Int)])∧w.heap.size≤lb∧w.heap.size≤sb∧
  cV w' lb ab sb (A.taken+1) n (fun _ _=>0)∧aj w' ab wb (A.take 2)∧ae [ab,wb] w w':=by
 have d1:decide ((n:Int)<1)=false:=by simp;omega
 have d2:decide ((32:Int)<n)=false:=by simp;omega
 have mk:=dZ n aO;have hT:=cY hA 2;have hn':A.takeN 2=(A.taken:Int)+1:=by unfold AR.takeN;rw[if_pos ht]
 rw[ht,hn'] at hT;have HT:=aH hT;have hab:=hA.box.lt;have hwb:=hA.row.lt;have hroom:=hA.room;have hle:=hA.le;have htk:A.taken+1≤4096:=by
  unfold AR.takeE at ht;rw[if_neg aO] at ht;by_cases hb:(A.ws.length:Int) - (A.taken:Int)<2
  ·rw[if_pos hb] at ht;omega
  ·omega
 clear hA hT hn' ht;go_enter func50,ntmps50;go_wp2_with fail;refine HT.o.mono ?_;rintro e w1 ⟨rfl,hA',hF⟩;have hsz:=hF.size;have HF:=aH hF;have HA:=aH hA';clear hA' hF;go_wp2;go_ret2;have g1:=(am.new w1 (cq n fun _ _=>0).toArray 138).alloc (.cells #[.slice (some ⟨w1.heap.size,0,none⟩) n n,some ab,((A.taken:Int)+1:Int)] 148);have g2:=am.new (w1.alloc (.cells (cq n fun _ _=>0).toArray 138)) #[.slice (some ⟨w1.heap.size,0,none⟩) n n,some ab,((A.taken:Int)+1:Int)] 148;rw[World.size_alloc] at g2;refine⟨w1.heap.size+1,w1.heap.size,rfl,by omega,hsz,?_,?_,(HF.o.alloc _).alloc _⟩
 ·exact{box:=by simpa using g2,row:=by simpa using g1,ne:=by omega,n1:=hn1,n32:=hn,nx:=htk}
 ·exact HA.o.frm (S:=[]) ((aF.alloc _).alloc _) aS aS
end
end Go.Proofs.YteijjhahgabalaaGreat
