/- The contracts of package cna: Threads, Spot, begin, Ask, Leave, count, next, spin, last. (Printed by gen_cna.py.) -/
import Derived.Test.YteijjhahgabalaaGreatWA32
import Derived.Test.YteijjhahgabalaaGreatWA06
import Derived.Test.YteijjhahgabalaaGreatWA08
import Derived.Test.YteijjhahgabalaaGreatWA13
import Derived.Test.YteijjhahgabalaaGreatWA28
import Derived.Test.YteijjhahgabalaaGreatWA29
import Derived.Test.YteijjhahgabalaaGreatWA31
import Derived.Test.YteijjhahgabalaaGreatWA24
import Derived.Test.YteijjhahgabalaaGreatWA23
set_option maxRecDepth 100000
set_option maxHeartbeats 8000000
set_option linter.all false
namespace Go.Proofs.YteijjhahgabalaaGreat
open Go.RowKit
open Tryz
structure B6 where
 N:List Int
 tail:Nat
 bud:Int
def B6.n (M:B6):Nat:=M.N.length
def B6.sc (M:B6):JY:=⟨M.N,(M.tail:Int)+2,3⟩
structure An where
 A:AR
 S:Nat→Nat→Int
 K:JU
structure BH where
 lb:Nat
 sb:Nat
 gb:Nat
 wb:Nat
 sc:mO
def BH.ab (B:BH):Nat:=B.sc.ab
structure A1 (w:World) (B:BH) (M:B6) (X:An):Prop where
 box:∃cap,am w B.lb [some B.ab,M.tail,M.bud,.slice (some ⟨B.gb,0,none⟩) M.n cap,some B.sc.kb,.slice (some ⟨B.sb,0,none⟩) M.n M.n] 223
 nds:∃v,IR w B.gb v M.N
 sc:BX w B.sc M.sc X.K
 row:am w B.sb (cq M.n X.S) 138
 ar:aj w B.ab B.wb X.A
 n32:M.n≤32
 tl:M.tail≤4096
def Aq (B:BH):List Nat:=[B.sc.kb,B.sb,B.ab,B.wb]
section
variable{w w':World} {B:BH} {M:B6} {X:An}
theorem A1.free (h:A1 w B M X):dI w (Aq B):=fun z hz=>by
 have hz':z=B.sc.kb∨z=B.sb∨z=B.ab∨z=B.wb:=by simpa[Aq] using hz
 rcases hz' with e|e|e
 ·subst e;exact⟨_,_,h.sc.box,by decide⟩
 ·subst e;exact⟨_,_,h.row,by decide⟩
 ·exact h.ar.fre e
theorem A1.ne (h:A1 w B M X):B.sc.kb≠B.sb∧B.sc.kb≠B.ab∧B.sc.kb≠B.wb∧B.sb≠B.ab∧B.sb≠B.wb:=
 ⟨h.sc.box.differ h.row aJ,h.sc.box.differ h.ar.box aJ,h.sc.box.differ h.ar.row aJ,h.row.differ h.ar.box aJ,h.row.differ h.ar.row aJ⟩
theorem A1.re (h:A1 w B M X) {Z:List Nat} (hf:ae Z w w') (hq:dI w Z) {X':An} (h1:BX w' B.sc M.sc X'.K) (h2:am w' B.sb (cq M.n X'.S) 138) (h3:aj w' B.ab B.wb X'.A):A1 w' B M X':=by
 obtain⟨cap,hb⟩:=h.box;obtain⟨v,hv⟩:=h.nds;have hv0:=hv;obtain⟨_,_,_,hc,_⟩:=hv;exact{box:=⟨cap,hb.frm hf (hq.not hb)⟩,nds:=⟨v,hv0.frm hf (hq.not hc)⟩,sc:=h1,row:=h2,ar:=h3,n32:=h.n32,tl:=h.tl}
theorem A1.stays (h:A1 w B M X) {Z:List Nat} (hf:ae Z w w') (hq:dI w Z) (hn:∀z∈Z,z∉Aq B):A1 w' B M X:=by
 have hx:∀z,z∈Aq B→z∉Z:=fun z h1 h2=>hn z h2 h1;exact h.re hf hq (h.sc.stays hf hq (hx _ (by simp[Aq]))) (h.row.frm hf (hx _ (by simp[Aq]))) (h.ar.frm hf (hx _ (by simp[Aq])) (hx _ (by simp[Aq])))
theorem A1.same (h:A1 w B M X) (hf:ae [] w w'):A1 w' B M X:=h.stays hf (dI.nil _) aS
theorem A1.arena (h:A1 w B M X) {A':AR} (hf:ae [B.ab,B.wb] w w') (hA:aj w' B.ab B.wb A'):A1 w' B M {X with A:=A'}:=by
 have hn:=h.ne;have hq:dI w [B.ab,B.wb]:=h.free.sub (by simp[Aq]);exact h.re hf hq (h.sc.stays hf hq aQ) (h.row.frm hf aQ) hA
theorem A1.put (h:A1 w B M X) (j:Nat) {t:Nat} (ht:t<4) (v:Int):A1 (w.setCell (B.sb,j*4+t) (.int .i64 v)) B M {X with S:=ac X.S j t v}:=by
 have hn:=h.ne;have hf:ae [B.sb] w (w.setCell (B.sb,j*4+t) (.int .i64 v)):=aU;have hq:dI w [B.sb]:=h.free.sub (by simp[Aq]);refine h.re hf hq (h.sc.stays hf hq aQ) ?_ (h.ar.frm hf aQ aQ);have:=h.row.set (j*4+t) (.int .i64 v)
 rwa [dP M.n X.S ht v] at this
theorem He (h:A1 w B M X):Calls prog 287 #[some B.lb] w fun e w'=>e= .returned M.n∧w=w':=by
 obtain⟨cap,hbx⟩:=h.box;have c5:=hbx.cell (i:=5) rfl;clear hbx;clear h;go_enter func287,ntmps287;go_wp2;go_ret;exact⟨rfl,rfl⟩
theorem Jq (h:A1 w B M X) {j:Nat} (hj:j<M.n):Calls prog 285 #[some B.lb,j] w fun e w'=>e= .returned (.agg #[(X.S j 0:Int),(X.S j 1:Int),(X.S j 2:Int),(X.S j 3:Int)])∧ae [] w w':=by
 have hF:ae [] w (w.alloc (.cells #[(0:Int),(0:Int),(0:Int),(0:Int)] 138)):=aF.alloc _;have h2:=h.same hF;have HT:=aH (He h2);obtain⟨cap,hbx⟩:=h2.box;have c5:=hbx.cell (i:=5) rfl;clear hbx;have j0:=h2.row.cell (ag M.n X.S (t:=0) hj aO);have j1:=h2.row.cell (ag M.n X.S (t:=1) hj aO);have j2:=h2.row.cell (ag M.n X.S (t:=2) hj aO);have j3:=h2.row.cell (ag M.n X.S (t:=3) hj aO);rw[Nat.add_zero] at j0;have hn:=h.n32;obtain⟨d1,d2,d3⟩:=aI (j:=j) (n:=M.n);have l1:(j:Int)<M.n:=by omega
 have HF:=aH hF;generalize X.S j 0=a0 at*;generalize X.S j 1=a1 at*;generalize X.S j 2=a2 at*;generalize X.S j 3=a3 at*;clear h h2 hF;go_enter func285,ntmps285;go_wp2_with fail;refine HT.o.mono ?_;rintro e w' ⟨rfl,rfl⟩;go_wp2_with fail;exact bodyPost_ret (v:=.agg #[a0,a1,a2,a3]) (by simp[results,results285,go_sem]) rfl ⟨rfl,aF.alloc _⟩
theorem ai (h:A1 w B M X) {j:Nat} (hj:j<M.n) (fr tt:Int):Calls prog 288 #[some B.lb,j,fr,tt] w fun e w'=>e= .returned (.bool (ah M.n X.S j fr))∧A1 w' B M {X with S:=a8 M.n X.S j fr tt}∧ae [B.sb] w w':=by
 have H:=aH h;have HT:=aH (He h);obtain⟨cap,hbx⟩:=h.box;have c5:=hbx.cell (i:=5) rfl;clear hbx;have j0:=h.row.cell (ag M.n X.S (t:=0) hj aO);rw[Nat.add_zero] at j0;have hn:=h.n32;obtain⟨d1,d2,d3⟩:=aI (j:=j) (n:=M.n);have l1:(j:Int)<M.n:=by omega
 have hs:=bP hj;by_cases hq:X.S j 0=fr
 ·have e1:ah M.n X.S j fr=true:=by unfold ah;rw[hs,Int.toNat_natCast,hq];simp
  have e2:a8 M.n X.S j fr tt=ac X.S j 0 tt:=by unfold a8;rw[e1,if_pos rfl,Int.toNat_natCast]
  rw[e1,e2];rw[hq] at j0;have jz:=h.row.frozen;have HP:=aH (h.put j (t:=0) aO tt);rw[Nat.add_zero] at HP;have HF:=aH ((ae.refl [B.sb] w).set ⟨B.sb,j*4,none⟩ (.int .i64 tt) (.inl aS));clear h e1 e2 hq hs;go_enter func288,ntmps288;go_wp2_with fail;refine HT.o.mono ?_;rintro e w' ⟨rfl,rfl⟩;go_wp2;go_ret;exact⟨rfl,HP.o,HF.o⟩
 ·have e1:ah M.n X.S j fr=false:=by unfold ah;rw[hs,Int.toNat_natCast];simpa using hq
  have e2:a8 M.n X.S j fr tt=X.S:=by unfold a8;rw[e1];rfl
  rw[e1,e2];have e3:(X.S j 0 !=fr)=true:=by simpa using hq
  generalize X.S j 0=q at*;clear h e1 e2 hq hs;go_enter func288,ntmps288;go_wp2_with fail;refine HT.o.mono ?_;rintro e w' ⟨rfl,rfl⟩;go_wp2;go_ret;exact⟨rfl,H.o,aF⟩
theorem wP (h:A1 w B M X) {j:Nat} (hj:j<M.n):Calls prog 283 #[some B.lb,j] w fun e w'=>e= .returned (.bool (ah M.n X.S j 0))∧A1 w' B M {X with S:=a8 M.n X.S j 0 1}∧ae [B.sb] w w':=by
 have HT:=aH (ai h hj 0 1);clear h hj;go_enter func283,ntmps283;go_wp2_with fail;refine HT.o.mono ?_;rintro e w' ⟨rfl,hK,hF⟩;have HK:=aH hK;have HF:=aH hF;clear hK hF;go_wp2;go_ret;exact⟨rfl,HK.o,HF.o⟩
theorem mW (h:A1 w B M X) {j:Nat} (hj:j<M.n):Calls prog 284 #[some B.lb,j] w fun e w'=>e= .returned (.bool (ah M.n X.S j 10))∧A1 w' B M {X with S:=a8 M.n X.S j 10 11}∧ae [B.sb] w w':=by
 have HT:=aH (ai h hj 10 11);clear h hj;go_enter func284,ntmps284;go_wp2_with fail;refine HT.o.mono ?_;rintro e w' ⟨rfl,hK,hF⟩;have HK:=aH hK;have HF:=aH hF;clear hK hF;go_wp2;go_ret;exact⟨rfl,HK.o,HF.o⟩
def an (M:B6):Int:=wrap64 ((M.tail:Int)+1)
theorem Dt (h:A1 w B M X):Calls prog 296 #[some B.lb] w fun e w'=>e= .returned (an M:Int)∧w=w':=by
 obtain⟨cap,hbx⟩:=h.box;have c1:=hbx.cell (i:=1) rfl;clear h hbx;go_enter func296,ntmps296;go_wp2;go_ret;exact⟨rfl,rfl⟩
def A8 (M:B6) (x:Int):Int:=wrap64 (wrap64 ((M.tail:Int)+wrap64 (3*x)) - 1)
theorem Ek (h:A1 w B M X) (x:Int):Calls prog 96 #[some B.lb,x] w fun e w'=>e= .returned (A8 M x:Int)∧w=w':=by
 obtain⟨cap,hbx⟩:=h.box;have c1:=hbx.cell (i:=1) rfl;clear h hbx;go_enter func96,ntmps96;go_wp2;go_ret;exact⟨rfl,rfl⟩
def AC (M:B6) (x:Int):Int:=wrap64 ((M.tail:Int)+wrap64 (3*x))
theorem Di (h:A1 w B M X) (x:Int):Calls prog 293 #[some B.lb,x] w fun e w'=>e= .returned (AC M x:Int)∧w=w':=by
 obtain⟨cap,hbx⟩:=h.box;have c1:=hbx.cell (i:=1) rfl;clear h hbx;go_enter func293,ntmps293;go_wp2;go_ret;exact⟨rfl,rfl⟩
def AL (M:B6) (x:Int):Int:=wrap64 (wrap64 ((M.tail:Int)+wrap64 (3*x))+1)
theorem Jr (h:A1 w B M X) (x:Int):Calls prog 295 #[some B.lb,x] w fun e w'=>e= .returned (AL M x:Int)∧w=w':=by
 obtain⟨cap,hbx⟩:=h.box;have c1:=hbx.cell (i:=1) rfl;clear h hbx;go_enter func295,ntmps295;go_wp2;go_ret;exact⟨rfl,rfl⟩
end
section
variable{w w':World} {B:BH} {M:B6} {X:An}
def Gl (c:Bool) (a b:Int):Int:=if c then a else b
theorem Dh (c:Bool) (a b:Int) (w:World):Calls prog 294 #[c,a,b] w fun e w'=>e= .returned (Gl c a b:Int)∧w=w':=by
 cases c<;>
 ·go_enter func294,ntmps294;go_wp2;go_ret;exact⟨rfl,rfl⟩
theorem wk (h:A1 w B M X) {j:Nat} (hj:j<M.n) (h0:X.S j 0=3) (x:Int):Calls prog 289 #[some B.lb,.pointer (some ⟨B.sb,j*4,none⟩),x] w fun e w'=>e= .returned (Gl (X.A.get M.tail==0) 6 4:Int)∧A1 w' B M {X with A:=X.A.swap M.tail x,S:=ac X.S j 1 (X.A.get M.tail)}∧ae [B.sb,B.ab,B.wb] w w':=by
 obtain⟨cap,hbx⟩:=h.box;have c0:=hbx.cell (i:=0) rfl;have c1:=hbx.cell (i:=1) rfl;have j0:=h.row.cell (ag M.n X.S (t:=0) hj aO);rw[Nat.add_zero,h0] at j0;have HS:=aH (fun(W:World) (hf:ae [] w W)=>(eo (h.same hf).ar M.tail x).mono (fun e w' q=>(show e=_∧A1 w' B M {X with A:=X.A.swap M.tail x}∧ae [B.ab,B.wb] w w' from⟨q.1,(h.same hf).arena q.2.2 q.2.1,(hf.mono aS).trans q.2.2⟩)));have HP:=aH (fun(W:World)=>Dh (X.A.get M.tail==0) 6 4 W);have HJ:=aH hj;clear h hbx h0;go_enter func289,ntmps289;go_wp2_with fail;go_region_with(go_at_call 207;refine(HS.o _ aD).mono ?_;rintro e w2 ⟨rfl,hC,hF⟩;have j1:=hC.row.cell (ag M.n X.S (t:=1) HJ.o aO);have jz:=hC.row.frozen;have HC:=aH hC;have HF:=aH hF;clear hC hF)
 all_goals
  have HE:=aH (HC.o.put j (t:=1) aO (X.A.get M.tail));have j2:=HE.o.row.cell (ag M.n (ac X.S j 1 (X.A.get M.tail)) (t:=1) HJ.o aO);rw[show ac X.S j 1 (X.A.get M.tail) j 1=X.A.get M.tail from by simp[ac]] at j2;have HG:=aH ((HF.o.mono (S':=[B.sb,B.ab,B.wb]) aS).set ⟨B.sb,j*4+1,none⟩ (.int .i64 (X.A.get M.tail)) (.inl aS));go_wp2_with fail;refine(HP.o _).mono ?_;rintro e w3 ⟨rfl,rfl⟩;go_wp2;go_ret;exact⟨rfl,HE.o,HG.o⟩
end
def Ca.loc (M:Ca) (th:Nat):Int:=(M.tail:Int)+1+(M.nd th:Nat)
def AI (M:Ca) (X:Dc) (j:Nat):Dc×Int:=
 if X.S j 0=1 then
  (if X.A.get (M.loc j)≠0 then({X with A:=X.A.swap (M.loc j) (eD M.n X.D j),S:=ac X.S j 1 (X.A.get (M.loc j))},5)
   else if 0<M.delay then({X with A:=X.A.swap (M.loc j) (eD M.n X.D j),S:=ac (ac X.S j 1 (X.A.get (M.loc j))) j 2 M.delay},2)
   else({X with A:=X.A.swap (M.loc j) (eD M.n X.D j),S:=ac (ac X.S j 1 (X.A.get (M.loc j))) j 2 0},3))
 else if X.S j 0=2 then({X with S:=ac X.S j 2 (wrap64 (X.S j 2 - 1))},if 0<wrap64 (X.S j 2 - 1) then 2 else 3)
 else if X.S j 0=3 then({X with A:=X.A.swap (M.loc j) 0,S:=ac X.S j 3 (X.A.get (M.loc j))},4)
 else if X.S j 0=4 then({X with A:=X.A.swap M.tail (X.S j 3),S:=ac X.S j 1 (X.A.get M.tail)},if X.A.get M.tail=0 then 10 else 5)
 else if X.S j 0=5 then({X with A:=X.A.tLook M.uf M.n (X.S j 1)},if X.A.tIs M.uf M.n (X.S j 1)=true then 10 else 5)
 else({X with A:=X.A.tDone M.uf M.n j,D:=x7 M.n X.D j},0)
section
variable{w w':World} {B:Gj} {M:Ca} {X:Dc} {j:Nat}
theorem Ca.nd_lt (M:Ca) (hT:du M.P M.T) (hj:j<M.n):M.nd j<(tE M.P).length:=by
 unfold Ca.nd jl;refine List.idxOf_lt_length_iff.2 (j8 hT ?_);rw[List.getElem?_eq_getElem hj];exact List.getElem_mem hj
theorem ay (h:AH w B M X) (hj:j<M.n):Calls prog 266 #[some B.lb,j] w fun e w'=>e= .returned (M.loc j:Int)∧ae [] w w':=by
 have H:=aH h;have HN:=aH (fun(W:World) (hf:ae [] w W)=>fC (h.same hf).tab hj);have hne:=aW [] w;have z2:∀q:HW (fun wx=>ae [] w wx),q.w.cell? (B.lb,2)=some (.int .i64 M.tail):=fun q=>(H.o.box.frm q.h aS).cell (i:=2) rfl;have z1:∀q:HW (fun wx=>ae [] w wx),q.w.cell? (B.lb,1)=some (.pointer (some ⟨B.tb,0,none⟩)):=fun q=>(H.o.box.frm q.h aS).cell (i:=1) rfl;have hnd:=M.nd_lt h.ok hj;have hle:=iJ M.P;have hs:=h.ok.size.2.1;have htl:=h.tl;unfold Ca.loc;unfold Ca.nd at*;generalize jl M.P (M.T[j]?.getD 0)=v at*;clear h hj;go_enter func266,ntmps266;go_wp2_with fail;refine aG (fun wx=>ae [] w wx) ?_;refine aR (fuel:=3) [0,1,2,3,4,5,6,7,8,9] rfl aF.drew1 ?_;intro Kq hKq;repeat (go_big_quiet_step (fail))
 refine wpQuiet_nil (hKq _ ?_);clear hKq Kq;refine aL 10 (fuel:=2) rfl ?_;go_wp2_with fail;refine(HN.o _ ((ae.refl [] w).drew1)).mono ?_;rintro e w1 ⟨rfl,rfl⟩;go_wp2_with fail;refine af ⟨aF.drew1,?_⟩;refine aR (fuel:=0) [11,12] rfl aF.drew1 ?_;intro Kq hKq;repeat (go_big_quiet_step (fail))
 refine wpQuiet_nil (hKq _ ?_);clear hKq Kq;refine aN ?_;go_wp2;go_ret;exact⟨by first|rfl|(congr 2;go_num),aF.drew1⟩
theorem IP:(∀{w:World} {B:Gj} {M:Ca} {X:Dc} {j:Nat} (h:AH w B M X) (hj:j<M.n) (hD:∀i,X.D i≤100000) (ha:X.A.get (M.loc j)≠0),Calls prog 260 #[some B.lb,j] w fun e w'=>e= .returned (5:Int)∧AH w' B M ({X with A:=X.A.swap (M.loc j) (eD M.n X.D (j:Int)),S:=ac X.S j 1 (X.A.get (M.loc j))})∧ae [B.sb,B.ab,B.wb] w w')∧(∀{w:World} {B:Gj} {M:Ca} {X:Dc} {j:Nat} (h:AH w B M X) (hj:j<M.n) (hD:∀i,X.D i≤100000) (ha:X.A.get (M.loc j)=0) (hd:0<M.delay),Calls prog 260 #[some B.lb,j] w fun e w'=>e= .returned (2:Int)∧AH w' B M ({X with A:=X.A.swap (M.loc j) (eD M.n X.D (j:Int)),S:=ac (ac X.S j 1 (X.A.get (M.loc j))) j 2 M.delay})∧ae [B.sb,B.ab,B.wb] w w')∧(∀{w:World} {B:Gj} {M:Ca} {X:Dc} {j:Nat} (h:AH w B M X) (hj:j<M.n) (hD:∀i,X.D i≤100000) (ha:X.A.get (M.loc j)=0) (hd:¬0<M.delay),Calls prog 260 #[some B.lb,j] w fun e w'=>e= .returned (3:Int)∧AH w' B M ({X with A:=X.A.swap (M.loc j) (eD M.n X.D (j:Int)),S:=ac (ac X.S j 1 (X.A.get (M.loc j))) j 2 0})∧ae [B.sb,B.ab,B.wb] w w'):=by
 refine⟨?_,?_,?_⟩;intro w B M X j h hj hD ha;rotate_left;iterate 2
  intro w B M X j h hj hD ha hd;rotate_left
 all_goals
  have H:=aH h;have HJ:=aH hj;have hn:=h.n32;have l1:(j:Int)<M.n:=by omega
  have c5:=h.box.cell (i:=5) rfl;have HNB:=aH (show B.lb∉[B.sb,B.ab,B.wb] from(h.free.sub (Z':=[B.sb,B.ab,B.wb]) aS).not h.box);have HNE:=aH h.ne;have hL:=fun(W:World) (hf:ae [] w W)=>ay (h.same hf) hj;have hX:=fun(W:World) (hf:ae [] w W)=>(h.same hf)
  have HNX:=aH (fun(W:World) (hf:ae [] w W)=>by
   obtain⟨m,ht⟩:=(h.same hf).tr;have:=vE (m:=100000) {ht with bd:=hD} aO (j:Int);exact this)
  have HLC:=aH hL;have HXX:=aH hX;have hpA:=fun(W:World) (hf:ae [] w W)=>eo (h.same hf).ar (M.loc j) (eD M.n X.D (j:Int));have HSW:=aH hpA
 have e1:(X.A.get (M.loc j)!=0)=true:=by simpa using ha
 clear ha;rotate_left;have e1:(X.A.get (M.loc j)!=0)=false:=by simpa using ha
 have e2:decide (0<M.delay)=true:=decide_eq_true hd;clear ha hd;rotate_left;have e1:(X.A.get (M.loc j)!=0)=false:=by simpa using ha
 have e2:decide (0<M.delay)=false:=decide_eq_false hd;clear ha hd;rotate_left;all_goals
  generalize hga:X.A.get (M.loc j)=ga at*;have HGA:=aH hga;have hne:=aW [B.sb,B.ab,B.wb] w;have z0:∀q:HW (fun wx=>ae [B.sb,B.ab,B.wb] w wx),q.w.cell? (B.lb,0)=some (.pointer (some ⟨B.ab,0,none⟩)):=fun q=>(H.o.box.frm q.h (by exact HNB.o)).cell (i:=0) rfl;have z3:∀q:HW (fun wx=>ae [B.sb,B.ab,B.wb] w wx),q.w.cell? (B.lb,3)=some (.pointer (some ⟨B.ub,0,none⟩)):=fun q=>(H.o.box.frm q.h (by exact HNB.o)).cell (i:=3) rfl;generalize M.loc j=lc at*;generalize eD M.n X.D (j:Int)=nx at*;clear h hj hL hX hpA hD hga;go_enter func260,ntmps260;go_wp2_with fail;refine aG (fun wx=>ae [B.sb,B.ab,B.wb] w wx) ?_;refine aR (fuel:=6) [0,1,2,3,4,5,6,8,9,10,11,12] rfl aF.drew1 ?_;intro Kq hKq;repeat (go_big_quiet_step (fail))
  refine wpQuiet_nil (hKq _ ?_);clear hKq Kq;refine aL 7 (fuel:=5) rfl ?_;go_wp2_with fail;refine(HLC.o _ ((ae.refl [] w).drew1)).mono ?_;rintro e w1 ⟨rfl,hF⟩;have HF1:=aH (((ae.refl [] w).drew1).trans hF);clear hF;go_wp2_with fail;refine af ⟨HF1.o.mono aS,?_⟩;refine aL 13 (fuel:=4) rfl ?_;go_wp2_with fail;refine(HNX.o _ HF1.o).mono ?_;rintro e w2 ⟨rfl,n2,rfl⟩;have HF2:=aH (HF1.o.drew n2);go_wp2_with fail;refine af ⟨HF2.o.mono aS,?_⟩;refine aL 14 (fuel:=3) rfl ?_;go_wp2_with fail;refine(HSW.o _ HF2.o).mono ?_;rintro e w3 ⟨rfl,hA,hF⟩;have HC3:=aH ((HXX.o _ HF2.o).arena hF hA);have HF3:=aH ((HF2.o.mono (S':=[B.sb,B.ab,B.wb]) aS).trans (hF.mono aS));clear hA hF;go_wp2_with fail;refine af ⟨HF3.o,?_⟩;refine aR (fuel:=1) [15,16] rfl HF3.o ?_;intro Kq hKq;repeat (go_big_quiet_step (fail))
  refine wpQuiet_nil (hKq _ ?_);clear hKq Kq;have k1:=HC3.o.row.cell (ag M.n X.S (i:=j) (t:=1) HJ.o aO);have kz:=HC3.o.row.frozen;have HC4:=aH (HC3.o.put j (t:=1) aO ga);have HF4:=aH (HF3.o.set ⟨B.sb,j*4+1,none⟩ (.int .i64 ga) (.inl aS));refine aL 17 (fuel:=0) rfl ?_;go_wp2_with fail;go_wp2_with fail;refine af ⟨HF4.o,?_⟩;refine aN ?_;clear hne z0 z3;generalize w3.setCell (B.sb,j*4+1) (.int .i64 ga)=w4 at*;have b4:=HC4.o.box.cell (i:=4) rfl;have q1:=HC4.o.row.cell (ag M.n _ (i:=j) (t:=1) HJ.o aO);have hs1:ac X.S j 1 ga j 1=ga:=by rw[bw,if_pos ⟨rfl,rfl⟩]
  change _=some (Value.int .i64 (ac X.S j 1 ga j 1)) at q1;rw[hs1] at q1;clear hs1
 rotate_left;have k2:=HC4.o.row.cell (ag M.n _ (i:=j) (t:=2) HJ.o aO);have kz2:=HC4.o.row.frozen;have c52:=HC4.o.box.cell (i:=5) rfl;have HC5:=aH (HC4.o.put j (t:=2) aO M.delay);have HF5:=aH (HF4.o.set ⟨B.sb,j*4+2,none⟩ (.int .i64 M.delay) (.inl aS));rotate_left;have k2:=HC4.o.row.cell (ag M.n _ (i:=j) (t:=2) HJ.o aO);have kz2:=HC4.o.row.frozen;have c52:=HC4.o.box.cell (i:=5) rfl;have HC5:=aH (HC4.o.put j (t:=2) aO 0);have HF5:=aH (HF4.o.set ⟨B.sb,j*4+2,none⟩ (.int .i64 0) (.inl aS));rotate_left;all_goals
  go_wp2;go_ret
 ·exact⟨rfl,HC4.o,HF4.o⟩
 iterate 2
  exact⟨rfl,HC5.o,HF5.o⟩
def i5:= @And.left _ _ IP
def gW:= @And.left _ _ (@And.right _ _ IP)
def gY:= @And.right _ _ (@And.right _ _ IP)
theorem Cz:(∀{w:World} {B:Gj} {M:Ca} {X:Dc} {j:Nat} (h:AH w B M X) (hj:j<M.n) (hb:0<wrap64 (X.S j 2 - 1)),Calls prog 261 #[some B.lb,j] w fun e w'=>e= .returned (2:Int)∧AH w' B M ({X with S:=ac X.S j 2 (wrap64 (X.S j 2 - 1))})∧ae [B.sb,B.ab,B.wb] w w')∧(∀{w:World} {B:Gj} {M:Ca} {X:Dc} {j:Nat} (h:AH w B M X) (hj:j<M.n) (hb:¬0<wrap64 (X.S j 2 - 1)),Calls prog 261 #[some B.lb,j] w fun e w'=>e= .returned (3:Int)∧AH w' B M ({X with S:=ac X.S j 2 (wrap64 (X.S j 2 - 1))})∧ae [B.sb,B.ab,B.wb] w w')∧(∀{w:World} {B:Gj} {M:Ca} {X:Dc} {j:Nat} (h:AH w B M X) (hj:j<M.n),Calls prog 262 #[some B.lb,j] w fun e w'=>e= .returned (4:Int)∧AH w' B M ({X with A:=X.A.swap (M.loc j) 0,S:=ac X.S j 3 (X.A.get (M.loc j))})∧ae [B.sb,B.ab,B.wb] w w')∧(∀{w:World} {B:Gj} {M:Ca} {X:Dc} {j:Nat} (h:AH w B M X) (hj:j<M.n) (ha:X.A.get M.tail=0),Calls prog 263 #[some B.lb,j] w fun e w'=>e= .returned (10:Int)∧AH w' B M ({X with A:=X.A.swap M.tail (X.S j 3),S:=ac X.S j 1 (X.A.get M.tail)})∧ae [B.sb,B.ab,B.wb] w w')∧(∀{w:World} {B:Gj} {M:Ca} {X:Dc} {j:Nat} (h:AH w B M X) (hj:j<M.n) (ha:X.A.get M.tail≠0),Calls prog 263 #[some B.lb,j] w fun e w'=>e= .returned (5:Int)∧AH w' B M ({X with A:=X.A.swap M.tail (X.S j 3),S:=ac X.S j 1 (X.A.get M.tail)})∧ae [B.sb,B.ab,B.wb] w w')∧(∀{w:World} {B:Gj} {M:Ca} {X:Dc} {j:Nat} (h:AH w B M X) (hj:j<M.n) (hx:fP (X.S j 1)) (ht:X.A.tIs M.uf M.n (X.S j 1)=true),Calls prog 264 #[some B.lb,j] w fun e w'=>e= .returned (10:Int)∧AH w' B M ({X with A:=X.A.tLook M.uf M.n (X.S j 1)})∧ae [B.sb,B.ab,B.wb] w w')∧(∀{w:World} {B:Gj} {M:Ca} {X:Dc} {j:Nat} (h:AH w B M X) (hj:j<M.n) (hx:fP (X.S j 1)) (ht:X.A.tIs M.uf M.n (X.S j 1)=false),Calls prog 264 #[some B.lb,j] w fun e w'=>e= .returned (5:Int)∧AH w' B M ({X with A:=X.A.tLook M.uf M.n (X.S j 1)})∧ae [B.sb,B.ab,B.wb] w w'):=by
 refine⟨?_,?_,?_,?_,?_,?_,?_⟩;iterate 2
  intro w B M X j h hj hb;rotate_left
 intro w B M X j h hj;rotate_left;iterate 2
  intro w B M X j h hj ha;rotate_left
 iterate 2
  intro w B M X j h hj hx ht;rotate_left
 all_goals
  have H:=aH h;have HJ:=aH hj;have hn:=h.n32;have l1:(j:Int)<M.n:=by omega
  have c5:=h.box.cell (i:=5) rfl;have HNB:=aH (show B.lb∉[B.sb,B.ab,B.wb] from(h.free.sub (Z':=[B.sb,B.ab,B.wb]) aS).not h.box);have HNE:=aH h.ne
 focus
  have k2:=h.row.cell (ag M.n X.S (i:=j) (t:=2) hj aO);have kz:=h.row.frozen;have HC5:=aH (h.put j (t:=2) aO (wrap64 (X.S j 2 - 1)));have HF5:=aH ((ae.refl [B.sb,B.ab,B.wb] w).set ⟨B.sb,j*4+2,none⟩ (.int .i64 (wrap64 (X.S j 2 - 1))) (.inl aS));have e1:decide (0<wrap64 (X.S j 2 - 1))=true:=decide_eq_true hb;generalize X.S j 2=b at*;clear h hj hb;go_enter func261,ntmps261
 rotate_left
 focus
  have k2:=h.row.cell (ag M.n X.S (i:=j) (t:=2) hj aO);have kz:=h.row.frozen;have HC5:=aH (h.put j (t:=2) aO (wrap64 (X.S j 2 - 1)));have HF5:=aH ((ae.refl [B.sb,B.ab,B.wb] w).set ⟨B.sb,j*4+2,none⟩ (.int .i64 (wrap64 (X.S j 2 - 1))) (.inl aS));have e1:decide (0<wrap64 (X.S j 2 - 1))=false:=decide_eq_false hb;generalize X.S j 2=b at*;clear h hj hb;go_enter func261,ntmps261
 rotate_left
 focus
  have HLC:=aH (fun(W:World) (hf:ae [] w W)=>ay (h.same hf) hj);have HXX:=aH (fun(W:World) (hf:ae [] w W)=>(h.same hf));have HSW:=aH (fun(W:World) (hf:ae [] w W)=>eo (h.same hf).ar (M.loc j) 0);generalize X.A.get (M.loc j)=ga at*;have hne:=aW [B.sb,B.ab,B.wb] w;have z0:∀q:HW (fun wx=>ae [B.sb,B.ab,B.wb] w wx),q.w.cell? (B.lb,0)=some (.pointer (some ⟨B.ab,0,none⟩)):=fun q=>(H.o.box.frm q.h (by exact HNB.o)).cell (i:=0) rfl;have z5:∀q:HW (fun wx=>ae [B.sb,B.ab,B.wb] w wx),q.w.cell? (B.lb,5)=some (.slice (some ⟨B.sb,0,none⟩) M.n M.n):=fun q=>(H.o.box.frm q.h (by exact HNB.o)).cell (i:=5) rfl;generalize M.loc j=lc at*;clear h hj;go_enter func262,ntmps262;go_wp2_with fail;refine aG (fun wx=>ae [B.sb,B.ab,B.wb] w wx) ?_;refine aR (fuel:=5) [0,1,2,3,4,5,6,7,8,9,10] rfl aF.drew1 ?_;intro Kq hKq;repeat (go_big_quiet_step (fail))
  refine wpQuiet_nil (hKq _ ?_);clear hKq Kq;refine aL 11 (fuel:=4) rfl ?_;go_wp2_with fail;refine(HLC.o _ ((ae.refl [] w).drew1)).mono ?_;rintro e w1 ⟨rfl,hF⟩;have HF1:=aH (((ae.refl [] w).drew1).trans hF);clear hF;go_wp2_with fail;refine af ⟨HF1.o.mono aS,?_⟩;refine aL 12 (fuel:=3) rfl ?_;go_wp2_with fail;refine(HSW.o _ HF1.o).mono ?_;rintro e w3 ⟨rfl,hA,hF⟩;have HC3:=aH ((HXX.o _ HF1.o).arena hF hA);have HF3:=aH ((HF1.o.mono (S':=[B.sb,B.ab,B.wb]) aS).trans (hF.mono aS));clear hA hF;go_wp2_with fail;refine af ⟨HF3.o,?_⟩;refine aR (fuel:=1) [13,14] rfl HF3.o ?_;intro Kq hKq;repeat (go_big_quiet_step (fail))
  refine wpQuiet_nil (hKq _ ?_);clear hKq Kq;have k1:=HC3.o.row.cell (ag M.n X.S (i:=j) (t:=3) HJ.o aO);have kz:=HC3.o.row.frozen;have HC4:=aH (HC3.o.put j (t:=3) aO ga);have HF4:=aH (HF3.o.set ⟨B.sb,j*4+3,none⟩ (.int .i64 ga) (.inl aS));refine aL 15 (fuel:=0) rfl ?_;go_wp2_with fail;go_wp2_with fail;refine af ⟨HF4.o,?_⟩;refine aN ?_;clear hne z0 z5
 rotate_left
 focus
  have HXX:=aH (fun(W:World) (hf:ae [] w W)=>(h.same hf));have HSW:=aH (fun(W:World) (hf:ae [] w W)=>eo (h.same hf).ar M.tail (X.S j 3));have e1:(X.A.get M.tail==0)=true:=by simpa using ha
  have k3:=h.row.cell (ag M.n X.S (i:=j) (t:=3) hj aO);generalize X.A.get M.tail=ga at*;generalize hcv:X.S j 3=cv at*;have HCV:=aH hcv;have hne:Nonempty (HW (fun wx=>ae [B.sb,B.ab,B.wb] w wx∧wx.cell? (B.sb,j*4+3)=some (.int .i64 cv))):=⟨⟨w,aF,k3⟩⟩
  have z0:∀q:HW (fun wx=>ae [B.sb,B.ab,B.wb] w wx∧wx.cell? (B.sb,j*4+3)=some (.int .i64 cv)),q.w.cell? (B.lb,0)=some (.pointer (some ⟨B.ab,0,none⟩)):=fun q=>(H.o.box.frm q.h.1 HNB.o).cell (i:=0) rfl;have z2:∀q:HW (fun wx=>ae [B.sb,B.ab,B.wb] w wx∧wx.cell? (B.sb,j*4+3)=some (.int .i64 cv)),q.w.cell? (B.lb,2)=some (.int .i64 M.tail):=fun q=>(H.o.box.frm q.h.1 HNB.o).cell (i:=2) rfl;have z3:∀q:HW (fun wx=>ae [B.sb,B.ab,B.wb] w wx∧wx.cell? (B.sb,j*4+3)=some (.int .i64 cv)),q.w.cell? (B.sb,j*4+3)=some (.int .i64 cv):=fun q=>q.h.2;clear h hj hcv ha;go_enter func263,ntmps263;go_wp2_with fail;refine bv (S:=(fun wx=>ae [B.sb,B.ab,B.wb] w wx∧wx.cell? (B.sb,j*4+3)=some (.int .i64 cv))) aK ?_;refine aR (fuel:=4) [0,1,2,3,4,5,6,7,8,9,10,11,12] rfl ⟨aF.drew1,k3⟩ ?_;intro Kq hKq;repeat (go_big_quiet_step (fail))
  refine wpQuiet_nil (hKq _ ?_);clear hKq Kq;refine aL 13 (fuel:=3) rfl ?_;go_wp2_with fail;refine(HSW.o _ ((ae.refl [] w).drew1)).mono ?_;rintro e w3 ⟨rfl,hA,hF⟩;have HC3:=aH ((HXX.o _ ((ae.refl [] w).drew1)).arena hF hA);have HF3:=aH ((((ae.refl [] w).drew1).mono (S':=[B.sb,B.ab,B.wb]) aS).trans (hF.mono aS));have hk3:=HC3.o.row.cell (ag M.n X.S (i:=j) (t:=3) HJ.o aO);rw[HCV.o] at hk3;have HK3:=aH hk3;clear hA hF hk3;go_wp2_with fail;refine af ⟨⟨HF3.o,HK3.o⟩,?_⟩;refine aR (fuel:=1) [14,15] rfl ⟨HF3.o,HK3.o⟩ ?_;intro Kq hKq;repeat (go_big_quiet_step (fail))
  refine wpQuiet_nil (hKq _ ?_);clear hKq Kq;have k1:=HC3.o.row.cell (ag M.n X.S (i:=j) (t:=1) HJ.o aO);have kz:=HC3.o.row.frozen;have HC4:=aH (HC3.o.put j (t:=1) aO ga);have HF4:=aH (HF3.o.set ⟨B.sb,j*4+1,none⟩ (.int .i64 ga) (.inl aS));have hk4:=HC4.o.row.cell (ag M.n _ (i:=j) (t:=3) HJ.o aO);have hs3:ac X.S j 1 ga j 3=cv:=by rw[bw,if_neg aS];exact HCV.o
  change _=some (Value.int .i64 (ac X.S j 1 ga j 3)) at hk4;rw[hs3] at hk4;have HK4:=aH hk4;clear hk4 hs3;refine aL 16 (fuel:=0) rfl ?_;go_wp2_with fail;go_wp2_with fail;refine af ⟨⟨HF4.o,HK4.o⟩,?_⟩;refine aN ?_;clear hne z0 z2 z3;generalize w3.setCell (B.sb,j*4+1) (.int .i64 ga)=w4 at*;have q1:=HC4.o.row.cell (ag M.n _ (i:=j) (t:=1) HJ.o aO);have hs1:ac X.S j 1 ga j 1=ga:=by rw[bw,if_pos ⟨rfl,rfl⟩]
  change _=some (Value.int .i64 (ac X.S j 1 ga j 1)) at q1;rw[hs1] at q1;clear hs1
 rotate_left
 focus
  have HXX:=aH (fun(W:World) (hf:ae [] w W)=>(h.same hf));have HSW:=aH (fun(W:World) (hf:ae [] w W)=>eo (h.same hf).ar M.tail (X.S j 3));have e1:(X.A.get M.tail==0)=false:=by simpa using ha
  have k3:=h.row.cell (ag M.n X.S (i:=j) (t:=3) hj aO);generalize X.A.get M.tail=ga at*;generalize hcv:X.S j 3=cv at*;have HCV:=aH hcv;have hne:Nonempty (HW (fun wx=>ae [B.sb,B.ab,B.wb] w wx∧wx.cell? (B.sb,j*4+3)=some (.int .i64 cv))):=⟨⟨w,aF,k3⟩⟩
  have z0:∀q:HW (fun wx=>ae [B.sb,B.ab,B.wb] w wx∧wx.cell? (B.sb,j*4+3)=some (.int .i64 cv)),q.w.cell? (B.lb,0)=some (.pointer (some ⟨B.ab,0,none⟩)):=fun q=>(H.o.box.frm q.h.1 HNB.o).cell (i:=0) rfl;have z2:∀q:HW (fun wx=>ae [B.sb,B.ab,B.wb] w wx∧wx.cell? (B.sb,j*4+3)=some (.int .i64 cv)),q.w.cell? (B.lb,2)=some (.int .i64 M.tail):=fun q=>(H.o.box.frm q.h.1 HNB.o).cell (i:=2) rfl;have z3:∀q:HW (fun wx=>ae [B.sb,B.ab,B.wb] w wx∧wx.cell? (B.sb,j*4+3)=some (.int .i64 cv)),q.w.cell? (B.sb,j*4+3)=some (.int .i64 cv):=fun q=>q.h.2;clear h hj hcv ha;go_enter func263,ntmps263;go_wp2_with fail;refine bv (S:=(fun wx=>ae [B.sb,B.ab,B.wb] w wx∧wx.cell? (B.sb,j*4+3)=some (.int .i64 cv))) aK ?_;refine aR (fuel:=4) [0,1,2,3,4,5,6,7,8,9,10,11,12] rfl ⟨aF.drew1,k3⟩ ?_;intro Kq hKq;repeat (go_big_quiet_step (fail))
  refine wpQuiet_nil (hKq _ ?_);clear hKq Kq;refine aL 13 (fuel:=3) rfl ?_;go_wp2_with fail;refine(HSW.o _ ((ae.refl [] w).drew1)).mono ?_;rintro e w3 ⟨rfl,hA,hF⟩;have HC3:=aH ((HXX.o _ ((ae.refl [] w).drew1)).arena hF hA);have HF3:=aH ((((ae.refl [] w).drew1).mono (S':=[B.sb,B.ab,B.wb]) aS).trans (hF.mono aS));have hk3:=HC3.o.row.cell (ag M.n X.S (i:=j) (t:=3) HJ.o aO);rw[HCV.o] at hk3;have HK3:=aH hk3;clear hA hF hk3;go_wp2_with fail;refine af ⟨⟨HF3.o,HK3.o⟩,?_⟩;refine aR (fuel:=1) [14,15] rfl ⟨HF3.o,HK3.o⟩ ?_;intro Kq hKq;repeat (go_big_quiet_step (fail))
  refine wpQuiet_nil (hKq _ ?_);clear hKq Kq;have k1:=HC3.o.row.cell (ag M.n X.S (i:=j) (t:=1) HJ.o aO);have kz:=HC3.o.row.frozen;have HC4:=aH (HC3.o.put j (t:=1) aO ga);have HF4:=aH (HF3.o.set ⟨B.sb,j*4+1,none⟩ (.int .i64 ga) (.inl aS));have hk4:=HC4.o.row.cell (ag M.n _ (i:=j) (t:=3) HJ.o aO);have hs3:ac X.S j 1 ga j 3=cv:=by rw[bw,if_neg aS];exact HCV.o
  change _=some (Value.int .i64 (ac X.S j 1 ga j 3)) at hk4;rw[hs3] at hk4;have HK4:=aH hk4;clear hk4 hs3;refine aL 16 (fuel:=0) rfl ?_;go_wp2_with fail;go_wp2_with fail;refine af ⟨⟨HF4.o,HK4.o⟩,?_⟩;refine aN ?_;clear hne z0 z2 z3;generalize w3.setCell (B.sb,j*4+1) (.int .i64 ga)=w4 at*;have q1:=HC4.o.row.cell (ag M.n _ (i:=j) (t:=1) HJ.o aO);have hs1:ac X.S j 1 ga j 1=ga:=by rw[bw,if_pos ⟨rfl,rfl⟩]
  change _=some (Value.int .i64 (ac X.S j 1 ga j 1)) at q1;rw[hs1] at q1;clear hs1
 rotate_left;iterate 2
  focus
   obtain⟨m,htr⟩:=h.tr;have hne0:=h.ne;have HIS:=aH (fun(W:World) (hf:ae [] w W)=>Br (htr.frm hf aS) (h.ar.frm hf aS aS) ⟨hne0.2.1,hne0.2.2.1⟩ (X.S j 1) hx);rw[ht] at HIS;have HXX:=aH (fun(W:World) (hf:ae [] w W)=>(h.same hf));have k1:=h.row.cell (ag M.n X.S (i:=j) (t:=1) hj aO);have hnb2:B.sb∉[B.ab,B.wb]:=by simp;omega
   have HRW:=aH (And.intro h.row hnb2);have hne:=aW [B.ab,B.wb] w;have z3:∀q:HW (fun wx=>ae [B.ab,B.wb] w wx),q.w.cell? (B.lb,3)=some (.pointer (some ⟨B.ub,0,none⟩)):=fun q=>(H.o.box.frm q.h (fun hm=>HNB.o (List.mem_cons_of_mem _ hm))).cell (i:=3) rfl;have z5:∀q:HW (fun wx=>ae [B.ab,B.wb] w wx),q.w.cell? (B.lb,5)=some (.slice (some ⟨B.sb,0,none⟩) M.n M.n):=fun q=>(H.o.box.frm q.h (fun hm=>HNB.o (List.mem_cons_of_mem _ hm))).cell (i:=5) rfl;have z1:∀q:HW (fun wx=>ae [B.ab,B.wb] w wx),q.w.cell? (B.sb,j*4+1)=some (.int .i64 (X.S j 1)):=fun q=>(HRW.o.1.frm q.h HRW.o.2).cell (ag M.n X.S (i:=j) (t:=1) HJ.o aO);generalize X.S j 1=x at*;generalize X.A.tLook M.uf M.n x=A2 at*;clear h hj hx ht htr hne0 hnb2;go_enter func264,ntmps264;go_wp2_with fail;refine aG (fun wx=>ae [B.ab,B.wb] w wx) ?_;refine aR (fuel:=1) [0,1,2,3,4,5,6,7,8,9,10,11] rfl aF.drew1 ?_;intro Kq hKq;repeat (go_big_quiet_step (fail))
   refine wpQuiet_nil (hKq _ ?_);clear hKq Kq;refine aL 12 (fuel:=0) rfl ?_;go_wp2_with fail;refine(HIS.o _ ((ae.refl [] w).drew1)).mono ?_;rintro e w3 ⟨rfl,hA,hF⟩;have HC3:=aH ((HXX.o _ ((ae.refl [] w).drew1)).arena hF hA);have HF3:=aH ((((ae.refl [] w).drew1).mono (S':=[B.ab,B.wb]) aS).trans hF);clear hA hF;go_wp2_with fail;refine af ⟨HF3.o,?_⟩;refine aN ?_;clear hne z3 z5 z1
  rotate_left
 all_goals
  go_wp2;go_ret
 iterate 2
  exact⟨rfl,HC5.o,HF5.o⟩
 iterate 3
  exact⟨rfl,HC4.o,HF4.o⟩
 iterate 2
  exact⟨rfl,HC3.o,HF3.o.mono aS⟩
def nK:= @And.left _ _ Cz
def nM:= @And.left _ _ (@And.right _ _ Cz)
def xA:= @And.left _ _ (@And.right _ _ (@And.right _ _ Cz))
def de:= @And.left _ _ (@And.right _ _ (@And.right _ _ (@And.right _ _ Cz)))
def dm:= @And.left _ _ (@And.right _ _ (@And.right _ _ (@And.right _ _ (@And.right _ _ Cz))))
def gS:= @And.left _ _ (@And.right _ _ (@And.right _ _ (@And.right _ _ (@And.right _ _ (@And.right _ _ Cz)))))
def mv:= @And.right _ _ (@And.right _ _ (@And.right _ _ (@And.right _ _ (@And.right _ _ (@And.right _ _ Cz)))))
theorem s8 (h:AH w B M X) (hj:j<M.n) (hD:∀i,X.D i≤100000):Calls prog 265 #[some B.lb,j] w fun e w'=>e= .returned (0:Int)∧AH w' B M {X with A:=X.A.tDone M.uf M.n j,D:=x7 M.n X.D j}∧ae [B.ub,B.ab,B.wb] w w':=by
 have hn:=h.ne;obtain⟨m,htr⟩:=h.tr;have HC:=aH (vy (m:=100000) {htr with bd:=hD} h.ar aO ⟨hn.2.1,hn.2.2.1⟩ (j:Int));have H:=aH h;have c3:=h.box.cell (i:=3) rfl;clear h hj hD htr hn;go_enter func265,ntmps265;go_wp2_with fail;refine HC.o.mono ?_;rintro e w1 ⟨rfl,hA,hT,hF⟩;have hn:=H.o.ne;have HC1:=aH (H.o.re (X':={X with A:=X.A.tDone M.uf M.n j,D:=x7 M.n X.D j}) hF aS ⟨_,hT⟩ (H.o.row.frm hF aQ) hA);have HF:=aH hF;clear hA hT hF hn;go_wp2;go_ret;exact⟨rfl,HC1.o,HF.o⟩
end
def DH (B:Gj):List Nat:=[B.ub,B.sb,B.ab,B.wb]
def D1 (X:Dc) (j:Nat):Bool:=decide (X.S j 0=1∨X.S j 0=2∨X.S j 0=3∨X.S j 0=4∨X.S j 0=5∨X.S j 0=11)
def IT (M:Ca) (X:Dc) (j:Nat):Bool:=D1 X j&&((AI M X j).2==10||(AI M X j).2==0)
def E5 (M:Ca) (X:Dc) (j:Nat):Dc:=if D1 X j then{(AI M X j).1 with S:=ac (AI M X j).1.S j 0 (AI M X j).2} else X
section
variable{w w':World} {B:Gj} {M:Ca} {X:Dc} {j:Nat}
theorem xB (h:AH w B M X) (hj:j<M.n) (hD:∀i,X.D i≤100000) (hp:X.S j 0=1):Calls prog 260 #[some B.lb,j] w fun e w'=>e= .returned (.int .i64 (AI M X j).2)∧AH w' B M (AI M X j).1∧ae (DH B) w w':=by
 by_cases ha:X.A.get (M.loc j)≠0
 ·have e:AI M X j=({X with A:=X.A.swap (M.loc j) (eD M.n X.D j),S:=ac X.S j 1 (X.A.get (M.loc j))},5):=by unfold AI;rw[if_pos hp];rw[if_pos ha]
  rw[e];exact(i5 h hj hD ha).mono (fun e w' ⟨q1,q2,q3⟩=>⟨q1,q2,q3.mono (by unfold DH;simp)⟩)
 ·have ha0:X.A.get (M.loc j)=0:=by simpa using ha
  by_cases hd:0<M.delay
  ·have e:AI M X j=({X with A:=X.A.swap (M.loc j) (eD M.n X.D j),S:=ac (ac X.S j 1 (X.A.get (M.loc j))) j 2 M.delay},2):=by unfold AI;rw[if_pos hp];rw[if_neg ha,if_pos hd]
   rw[e];exact(gW h hj hD ha0 hd).mono (fun e w' ⟨q1,q2,q3⟩=>⟨q1,q2,q3.mono (by unfold DH;simp)⟩)
  ·have e:AI M X j=({X with A:=X.A.swap (M.loc j) (eD M.n X.D j),S:=ac (ac X.S j 1 (X.A.get (M.loc j))) j 2 0},3):=by unfold AI;rw[if_pos hp];rw[if_neg ha,if_neg hd]
   rw[e];exact(gY h hj hD ha0 hd).mono (fun e w' ⟨q1,q2,q3⟩=>⟨q1,q2,q3.mono (by unfold DH;simp)⟩)
theorem xD (h:AH w B M X) (hj:j<M.n) (hp:X.S j 0=2):Calls prog 261 #[some B.lb,j] w fun e w'=>e= .returned (.int .i64 (AI M X j).2)∧AH w' B M (AI M X j).1∧ae (DH B) w w':=by
 by_cases hb:0<wrap64 (X.S j 2 - 1)
 ·have e:AI M X j=({X with S:=ac X.S j 2 (wrap64 (X.S j 2 - 1))},2):=by unfold AI;rw[if_neg aO,if_pos hp];rw[if_pos hb]
  rw[e];exact(nK h hj hb).mono (fun e w' ⟨q1,q2,q3⟩=>⟨q1,q2,q3.mono (by unfold DH;simp)⟩)
 ·have e:AI M X j=({X with S:=ac X.S j 2 (wrap64 (X.S j 2 - 1))},3):=by unfold AI;rw[if_neg aO,if_pos hp];rw[if_neg hb]
  rw[e];exact(nM h hj hb).mono (fun e w' ⟨q1,q2,q3⟩=>⟨q1,q2,q3.mono (by unfold DH;simp)⟩)
theorem xE (h:AH w B M X) (hj:j<M.n) (hp:X.S j 0=3):Calls prog 262 #[some B.lb,j] w fun e w'=>e= .returned (.int .i64 (AI M X j).2)∧AH w' B M (AI M X j).1∧ae (DH B) w w':=by
 have e:AI M X j=({X with A:=X.A.swap (M.loc j) 0,S:=ac X.S j 3 (X.A.get (M.loc j))},4):=by unfold AI;rw[if_neg aO,if_neg aO,if_pos hp]
 rw[e];exact(xA h hj).mono (fun e w' ⟨q1,q2,q3⟩=>⟨q1,q2,q3.mono (by unfold DH;simp)⟩)
theorem xH (h:AH w B M X) (hj:j<M.n) (hp:X.S j 0=4):Calls prog 263 #[some B.lb,j] w fun e w'=>e= .returned (.int .i64 (AI M X j).2)∧AH w' B M (AI M X j).1∧ae (DH B) w w':=by
 by_cases ha:X.A.get M.tail=0
 ·have e:AI M X j=({X with A:=X.A.swap M.tail (X.S j 3),S:=ac X.S j 1 (X.A.get M.tail)},10):=by unfold AI;rw[if_neg aO,if_neg aO,if_neg aO,if_pos hp];rw[if_pos ha]
  rw[e];exact(de h hj ha).mono (fun e w' ⟨q1,q2,q3⟩=>⟨q1,q2,q3.mono (by unfold DH;simp)⟩)
 ·have e:AI M X j=({X with A:=X.A.swap M.tail (X.S j 3),S:=ac X.S j 1 (X.A.get M.tail)},5):=by unfold AI;rw[if_neg aO,if_neg aO,if_neg aO,if_pos hp];rw[if_neg ha]
  rw[e];exact(dm h hj ha).mono (fun e w' ⟨q1,q2,q3⟩=>⟨q1,q2,q3.mono (by unfold DH;simp)⟩)
theorem xI (h:AH w B M X) (hj:j<M.n) (hx:fP (X.S j 1)) (hp:X.S j 0=5):Calls prog 264 #[some B.lb,j] w fun e w'=>e= .returned (.int .i64 (AI M X j).2)∧AH w' B M (AI M X j).1∧ae (DH B) w w':=by
 cases ht:X.A.tIs M.uf M.n (X.S j 1) with
 |true=>
  have e:AI M X j=({X with A:=X.A.tLook M.uf M.n (X.S j 1)},10):=by unfold AI;rw[if_neg aO,if_neg aO,if_neg aO,if_neg aO,if_pos hp];rw[ht,if_pos rfl]
  rw[e];exact(gS h hj hx ht).mono (fun e w' ⟨q1,q2,q3⟩=>⟨q1,q2,q3.mono (by unfold DH;simp)⟩)
 |false=>
  have e:AI M X j=({X with A:=X.A.tLook M.uf M.n (X.S j 1)},5):=by unfold AI;rw[if_neg aO,if_neg aO,if_neg aO,if_neg aO,if_pos hp];rw[ht,if_neg aS]
  rw[e];exact(mv h hj hx ht).mono (fun e w' ⟨q1,q2,q3⟩=>⟨q1,q2,q3.mono (by unfold DH;simp)⟩)
theorem sB (h:AH w B M X) (hj:j<M.n) (hD:∀i,X.D i≤100000) (hp:X.S j 0=11):Calls prog 265 #[some B.lb,j] w fun e w'=>e= .returned (.int .i64 (AI M X j).2)∧AH w' B M (AI M X j).1∧ae (DH B) w w':=by
 have e:AI M X j=({X with A:=X.A.tDone M.uf M.n j,D:=x7 M.n X.D j},0):=by unfold AI;rw[if_neg aO,if_neg aO,if_neg aO,if_neg aO,if_neg aO]
 rw[e];exact(s8 h hj hD).mono (fun e w' ⟨q1,q2,q3⟩=>⟨q1,q2,q3.mono (by unfold DH;simp)⟩)
theorem CT:(∀{w:World} {B:Gj} {M:Ca} {X:Dc} {j:Nat} (h:AH w B M X) (hj:j<M.n) (hD:∀i,X.D i≤100000) (hp:X.S j 0=1),Calls prog 257 #[some B.lb,j] w fun e w'=>e= .returned (.bool ((AI M X j).2==10||(AI M X j).2==0))∧AH w' B M {(AI M X j).1 with S:=ac (AI M X j).1.S j 0 (AI M X j).2}∧ae (DH B) w w')∧(∀{w:World} {B:Gj} {M:Ca} {X:Dc} {j:Nat} (h:AH w B M X) (hj:j<M.n) (hp:X.S j 0=2),Calls prog 257 #[some B.lb,j] w fun e w'=>e= .returned (.bool ((AI M X j).2==10||(AI M X j).2==0))∧AH w' B M {(AI M X j).1 with S:=ac (AI M X j).1.S j 0 (AI M X j).2}∧ae (DH B) w w')∧(∀{w:World} {B:Gj} {M:Ca} {X:Dc} {j:Nat} (h:AH w B M X) (hj:j<M.n) (hp:X.S j 0=3),Calls prog 257 #[some B.lb,j] w fun e w'=>e= .returned (.bool ((AI M X j).2==10||(AI M X j).2==0))∧AH w' B M {(AI M X j).1 with S:=ac (AI M X j).1.S j 0 (AI M X j).2}∧ae (DH B) w w')∧(∀{w:World} {B:Gj} {M:Ca} {X:Dc} {j:Nat} (h:AH w B M X) (hj:j<M.n) (hp:X.S j 0=4),Calls prog 257 #[some B.lb,j] w fun e w'=>e= .returned (.bool ((AI M X j).2==10||(AI M X j).2==0))∧AH w' B M {(AI M X j).1 with S:=ac (AI M X j).1.S j 0 (AI M X j).2}∧ae (DH B) w w'):=by
 refine⟨?_,?_,?_,?_⟩;intro w B M X j h hj hD hp;rotate_left;iterate 3
  intro w B M X j h hj hp;rotate_left
 all_goals
  have hS:=GJ h hj;rw[hp] at hS;have HS:=aH hS
 have HGO:=aH (fun(W:World) (hf:ae [] w W)=>xB (h.same hf) hj hD hp);rotate_left;have HGO:=aH (fun(W:World) (hf:ae [] w W)=>xD (h.same hf) hj hp);rotate_left;have HGO:=aH (fun(W:World) (hf:ae [] w W)=>xE (h.same hf) hj hp);rotate_left;have HGO:=aH (fun(W:World) (hf:ae [] w W)=>xH (h.same hf) hj hp);rotate_left;all_goals
  have HJ:=aH hj;have hn:=h.n32;have l1:(j:Int)<M.n:=by omega
  have fd:=bY;generalize(AI M X j).1=X2 at*;generalize(AI M X j).2=r at*;generalize X.S j 1=s1 at*;generalize X.S j 2=s2 at*;generalize X.S j 3=s3 at*
 clear h hj hS hD hp;rotate_left;iterate 3
  clear h hj hS hp;rotate_left
 all_goals
  cases hr:(r==10)
  all_goals
   skip
   go_enter func257,ntmps257;go_wp2_with fail;refine HS.o.mono ?_;rintro e w1 ⟨rfl,hF1⟩;have HF1:=aH hF1;clear hF1;go_wp2_with fail;refine(HGO.o _ HF1.o).mono ?_;rintro e w2 ⟨rfl,hC,hF2⟩;have c5:=hC.box.cell (i:=5) rfl;have k0:=hC.row.cell (ag M.n X2.S (i:=j) (t:=0) HJ.o aO);rw[Nat.add_zero] at k0;have kz:=hC.row.frozen;have hP:=hC.put j (t:=0) aO r;rw[Nat.add_zero] at hP;have HP:=aH hP;have HF2:=aH (((HF1.o.mono (S':=DH B) aS).trans hF2).set ⟨B.sb,j*4,none⟩ (.int .i64 r) (.inl (by unfold DH;simp)));clear hC hF2 hP;go_wp2;go_ret;exact⟨rfl,HP.o,HF2.o⟩
def my:= @And.left _ _ CT
def nA:= @And.left _ _ (@And.right _ _ CT)
def nD:= @And.left _ _ (@And.right _ _ (@And.right _ _ CT))
def nE:= @And.right _ _ (@And.right _ _ (@And.right _ _ CT))
theorem nG (h:AH w B M X) (hj:j<M.n) (hx:fP (X.S j 1)) (hp:X.S j 0=5):Calls prog 257 #[some B.lb,j] w fun e w'=>e= .returned (.bool ((AI M X j).2==10||(AI M X j).2==0))∧AH w' B M {(AI M X j).1 with S:=ac (AI M X j).1.S j 0 (AI M X j).2}∧ae (DH B) w w':=by
 have hS:=GJ h hj;rw[hp] at hS;have HS:=aH hS;have HGO:=aH (fun(W:World) (hf:ae [] w W)=>xI (h.same hf) hj hx hp);have HJ:=aH hj;have hn:=h.n32;have l1:(j:Int)<M.n:=by omega
 have fd:=bY;generalize(AI M X j).1=X2 at*;generalize(AI M X j).2=r at*;generalize X.S j 1=s1 at*;generalize X.S j 2=s2 at*;generalize X.S j 3=s3 at*;clear h hj hS hp;cases hr:(r==10)
 all_goals
  clear hx;go_enter func257,ntmps257;go_wp2_with fail;refine HS.o.mono ?_;rintro e w1 ⟨rfl,hF1⟩;have HF1:=aH hF1;clear hF1;go_wp2_with fail;refine(HGO.o _ HF1.o).mono ?_;rintro e w2 ⟨rfl,hC,hF2⟩;have c5:=hC.box.cell (i:=5) rfl;have k0:=hC.row.cell (ag M.n X2.S (i:=j) (t:=0) HJ.o aO);rw[Nat.add_zero] at k0;have kz:=hC.row.frozen;have hP:=hC.put j (t:=0) aO r;rw[Nat.add_zero] at hP;have HP:=aH hP;have HF2:=aH (((HF1.o.mono (S':=DH B) aS).trans hF2).set ⟨B.sb,j*4,none⟩ (.int .i64 r) (.inl (by unfold DH;simp)));clear hC hF2 hP;go_wp2;go_ret;exact⟨rfl,HP.o,HF2.o⟩
theorem i6 (h:AH w B M X) (hj:j<M.n) (hD:∀i,X.D i≤100000) (hp:X.S j 0=11):Calls prog 257 #[some B.lb,j] w fun e w'=>e= .returned (.bool ((AI M X j).2==10||(AI M X j).2==0))∧AH w' B M {(AI M X j).1 with S:=ac (AI M X j).1.S j 0 (AI M X j).2}∧ae (DH B) w w':=by
 have hS:=GJ h hj;rw[hp] at hS;have HS:=aH hS;have HGO:=aH (fun(W:World) (hf:ae [] w W)=>sB (h.same hf) hj hD hp);have HJ:=aH hj;have hn:=h.n32;have l1:(j:Int)<M.n:=by omega
 have fd:=bY;generalize(AI M X j).1=X2 at*;generalize(AI M X j).2=r at*;generalize X.S j 1=s1 at*;generalize X.S j 2=s2 at*;generalize X.S j 3=s3 at*;clear h hj hS hD hp;cases hr:(r==10)
 all_goals
  skip
  go_enter func257,ntmps257;go_wp2_with fail;refine HS.o.mono ?_;rintro e w1 ⟨rfl,hF1⟩;have HF1:=aH hF1;clear hF1;go_wp2_with fail;refine(HGO.o _ HF1.o).mono ?_;rintro e w2 ⟨rfl,hC,hF2⟩;have c5:=hC.box.cell (i:=5) rfl;have k0:=hC.row.cell (ag M.n X2.S (i:=j) (t:=0) HJ.o aO);rw[Nat.add_zero] at k0;have kz:=hC.row.frozen;have hP:=hC.put j (t:=0) aO r;rw[Nat.add_zero] at hP;have HP:=aH hP;have HF2:=aH (((HF1.o.mono (S':=DH B) aS).trans hF2).set ⟨B.sb,j*4,none⟩ (.int .i64 r) (.inl (by unfold DH;simp)));clear hC hF2 hP;go_wp2;go_ret;exact⟨rfl,HP.o,HF2.o⟩
theorem mw (h:AH w B M X) (hj:j<M.n) (hp:D1 X j=false):Calls prog 257 #[some B.lb,j] w fun e w'=>e= .returned false∧AH w' B M X∧ae (DH B) w w':=by
 have HS:=aH (GJ h hj);have H:=aH h;have fd:=bY;unfold D1 at hp;have hq:=of_decide_eq_false hp;generalize X.S j 0=q at*;have k1:(q==1)=false:=by simp;omega
 have k2:(q==2)=false:=by simp;omega
 have k3:(q==3)=false:=by simp;omega
 have k4:(q==4)=false:=by simp;omega
 have k5:(q==5)=false:=by simp;omega
 have k6:(q==11)=false:=by simp;omega
 clear h hj hp hq;go_enter func257,ntmps257;go_wp2_with fail;refine HS.o.mono ?_;rintro e w1 ⟨rfl,hF1⟩;have HF1:=aH hF1;clear hF1;go_wp2;go_ret;exact⟨rfl,H.o.same HF1.o,HF1.o.mono aS⟩
theorem sF (h:AH w B M X) (hj:j<M.n) (hD:∀i,X.D i≤100000) (hx:fP (X.S j 1)):Calls prog 257 #[some B.lb,j] w fun e w'=>e= .returned (.bool (IT M X j))∧AH w' B M (E5 M X j)∧ae (DH B) w w':=by
 unfold IT E5;cases hm:D1 X j with
 |false=>rw[if_neg aS];exact mw h hj hm
 |true=>
  rw[if_pos rfl,Bool.true_and];unfold D1 at hm;rcases of_decide_eq_true hm with hp|hp|hp|hp|hp|hp
  ·exact my h hj hD hp
  ·exact nA h hj hp
  ·exact nD h hj hp
  ·exact nE h hj hp
  ·exact nG h hj hx hp
  ·exact i6 h hj hD hp
end
structure CP where
 n:Nat
 tail:Nat
structure BQ where
 A:AR
 S:Nat→Nat→Int
structure EC where
 lb:Nat
 sb:Nat
 ab:Nat
 wb:Nat
def D5 (n:Nat) (S:Nat→Nat→Int) (j:Nat) (tt v:Int):Nat→Nat→Int:=if ah n S j 10 then ac (a8 n S j 10 tt) j 3 v else S
structure be (w:World) (B:EC) (M:CP) (X:BQ):Prop where
 box:am w B.lb [some B.ab,M.tail,.slice (some ⟨B.sb,0,none⟩) M.n M.n] 247
 row:am w B.sb (cq M.n X.S) 138
 ar:aj w B.ab B.wb X.A
 n32:M.n≤32
 tl:M.tail≤5000
section
variable{w w':World} {B:EC} {M:CP} {X:BQ}
theorem be.ne (h:be w B M X):B.sb≠B.ab∧B.sb≠B.wb:=⟨h.row.differ h.ar.box aJ,h.row.differ h.ar.row aJ⟩
theorem be.re (h:be w B M X) {Z:List Nat} (hf:ae Z w w') (hq:dI w Z) {X':BQ} (h2:am w' B.sb (cq M.n X'.S) 138) (h3:aj w' B.ab B.wb X'.A):be w' B M X':=
 {box:=h.box.frm hf (hq.not h.box),row:=h2,ar:=h3,n32:=h.n32,tl:=h.tl}
theorem be.same (h:be w B M X) (hf:ae [] w w'):be w' B M X:=h.re hf (dI.nil _) (h.row.frm hf aS) (h.ar.frm hf aS aS)
theorem be.arena (h:be w B M X) {A':AR} (hf:ae [B.ab,B.wb] w w') (hA:aj w' B.ab B.wb A'):be w' B M {X with A:=A'}:=by
 have hn:=h.ne;exact h.re hf (fun z hz=>h.ar.fre (by simpa using hz)) (h.row.frm hf aQ) hA
theorem be.put (h:be w B M X) (j:Nat) {t:Nat} (ht:t<4) (v:Int):be (w.setCell (B.sb,j*4+t) (.int .i64 v)) B M {X with S:=ac X.S j t v}:=by
 have hf:ae [B.sb] w (w.setCell (B.sb,j*4+t) (.int .i64 v)):=aU;have hn:=h.ne;have hr:=h.row.set (j*4+t) (.int .i64 v);rw[dP M.n X.S ht v] at hr;exact h.re hf (dI.one h.row) hr (h.ar.frm hf aQ aQ)
theorem bW (h:be w B M X):Calls prog 246 #[some B.lb] w fun e w'=>e= .returned M.n∧w=w':=by
 have c2:=h.box.cell (i:=2) rfl;clear h;go_enter func246,ntmps246;go_wp2;go_ret;exact⟨rfl,rfl⟩
theorem Jz (h:be w B M X) {j:Nat} (hj:j<M.n):Calls prog 240 #[some B.lb,j] w fun e w'=>e= .returned (.agg #[(X.S j 0:Int),(X.S j 1:Int),(X.S j 2:Int),(X.S j 3:Int)])∧ae [] w w':=by
 have hF:ae [] w (w.alloc (.cells #[(0:Int),(0:Int),(0:Int),(0:Int)] 138)):=aF.alloc _;have h2:=h.same hF;have HT:=aH (bW h2);have c2:=h2.box.cell (i:=2) rfl;have j0:=h2.row.cell (ag M.n X.S (t:=0) hj aO);have j1:=h2.row.cell (ag M.n X.S (t:=1) hj aO);have j2:=h2.row.cell (ag M.n X.S (t:=2) hj aO);have j3:=h2.row.cell (ag M.n X.S (t:=3) hj aO);rw[Nat.add_zero] at j0;have hn:=h.n32;obtain⟨d1,d2,d3⟩:=aI (j:=j) (n:=M.n);have l1:(j:Int)<M.n:=by omega
 have HF:=aH hF;generalize X.S j 0=a0 at*;generalize X.S j 1=a1 at*;generalize X.S j 2=a2 at*;generalize X.S j 3=a3 at*;clear h h2 hF;go_enter func240,ntmps240;go_wp2_with fail;refine HT.o.mono ?_;rintro e w' ⟨rfl,rfl⟩;go_wp2_with fail;exact bodyPost_ret (v:=.agg #[a0,a1,a2,a3]) (by simp[results,results240,go_sem]) rfl ⟨rfl,aF.alloc _⟩
theorem bZ (h:be w B M X) {j:Nat} (hj:j<M.n) (fr tt:Int):Calls prog 245 #[some B.lb,j,fr,tt] w fun e w'=>e= .returned (.bool (ah M.n X.S j fr))∧be w' B M {X with S:=a8 M.n X.S j fr tt}∧ae [B.sb] w w':=by
 have H:=aH h;have HT:=aH (bW h);have c2:=h.box.cell (i:=2) rfl;have j0:=h.row.cell (ag M.n X.S (t:=0) hj aO);rw[Nat.add_zero] at j0;have hn:=h.n32;obtain⟨d1,d2,d3⟩:=aI (j:=j) (n:=M.n);have l1:(j:Int)<M.n:=by omega
 have hs:=bP hj;by_cases hq:X.S j 0=fr
 ·have e1:ah M.n X.S j fr=true:=by unfold ah;rw[hs,Int.toNat_natCast,hq];simp
  have e2:a8 M.n X.S j fr tt=ac X.S j 0 tt:=by unfold a8;rw[e1,if_pos rfl,Int.toNat_natCast]
  rw[e1,e2];rw[hq] at j0;have jz:=h.row.frozen;have HP:=aH (h.put j (t:=0) aO tt);rw[Nat.add_zero] at HP;have HF:=aH ((ae.refl [B.sb] w).set ⟨B.sb,j*4,none⟩ (.int .i64 tt) (.inl aS));clear h e1 e2 hq hs;go_enter func245,ntmps245;go_wp2_with fail;refine HT.o.mono ?_;rintro e w' ⟨rfl,rfl⟩;go_wp2;go_ret;exact⟨rfl,HP.o,HF.o⟩
 ·have e1:ah M.n X.S j fr=false:=by unfold ah;rw[hs,Int.toNat_natCast];simpa using hq
  have e2:a8 M.n X.S j fr tt=X.S:=by unfold a8;rw[e1];rfl
  rw[e1,e2];have e3:(X.S j 0 !=fr)=true:=by simpa using hq
  generalize X.S j 0=q at*;clear h e1 e2 hq hs;go_enter func245,ntmps245;go_wp2_with fail;refine HT.o.mono ?_;rintro e w' ⟨rfl,rfl⟩;go_wp2;go_ret;exact⟨rfl,H.o,aF⟩
theorem xk (h:be w B M X) {j:Nat} (hj:j<M.n):Calls prog 239 #[some B.lb,j] w fun e w'=>e= .returned (.bool (ah M.n X.S j 0))∧be w' B M {X with S:=a8 M.n X.S j 0 1}∧ae [B.sb] w w':=by
 have HT:=aH (bZ h hj 0 1);clear h hj;go_enter func239,ntmps239;go_wp2_with fail;refine HT.o.mono ?_;rintro e w' ⟨rfl,hK,hF⟩;have HK:=aH hK;have HF:=aH hF;clear hK hF;go_wp2;go_ret;exact⟨rfl,HK.o,HF.o⟩
theorem lK (h:be w B M X) {j:Nat} (hj:j<M.n) (tt v:Int):Calls prog 251 #[some B.lb,j,tt,v] w fun e w'=>e= .returned (.bool (ah M.n X.S j 10))∧be w' B M {X with S:=D5 M.n X.S j tt v}∧ae [B.sb] w w':=by
 have hB:=bZ h hj 10 tt;have HJ:=aH hj;have hn:=h.n32;obtain⟨d1,d2,d3⟩:=aI (j:=j) (n:=M.n);have l1:(j:Int)<M.n:=by omega
 have hnot:= @aX prog;cases hk:ah M.n X.S j 10 with
 |true=>
  rw[hk] at hB;have e9:D5 M.n X.S j tt v=ac (a8 M.n X.S j 10 tt) j 3 v:=by unfold D5;rw[hk];rfl
  rw[e9];have HB:=aH hB;clear h hj hB hk e9;go_enter func251,ntmps251;go_wp2_with fail;refine HB.o.mono ?_;rintro e w1 ⟨rfl,hX,hF⟩;have c2:=hX.box.cell (i:=2) rfl;have j3:=hX.row.cell (ag M.n _ (t:=3) HJ.o aO);have jz:=hX.row.frozen;have HP:=aH (hX.put j (t:=3) aO v);have HF:=aH (hF.set ⟨B.sb,j*4+3,none⟩ (.int .i64 v) (.inl aS));clear hX hF;go_wp2;go_ret;exact⟨rfl,HP.o,HF.o⟩
 |false=>
  rw[hk] at hB;have e9:D5 M.n X.S j tt v=X.S:=by unfold D5;rw[hk];rfl
  rw[e9];have e2:a8 M.n X.S j 10 tt=X.S:=by unfold a8;rw[hk];rfl
  rw[e2] at hB;have HB:=aH hB;clear h hj hB hk e2 e9;go_enter func251,ntmps251;go_wp2_with fail;refine HB.o.mono ?_;rintro e w1 ⟨rfl,hX,hF⟩;have HX:=aH (And.intro hX hF);clear hX hF;go_wp2;go_ret;exact⟨rfl,HX.o⟩
theorem pI (h:be w B M X) {j:Nat} (hj:j<M.n) (v:Int):Calls prog 247 #[some B.lb,j,v] w fun e w'=>e= .returned (.bool (ah M.n X.S j 10))∧be w' B M {X with S:=D5 M.n X.S j 11 v}∧ae [B.sb] w w':=by
 have HT:=aH (lK h hj 11 v);clear h hj;go_enter func247,ntmps247;go_wp2_with fail;refine HT.o.mono ?_;rintro e w' ⟨rfl,hK,hF⟩;have HK:=aH (And.intro hK hF);clear hK hF;go_wp2;go_ret;exact⟨rfl,HK.o⟩
theorem uR (h:be w B M X) {j:Nat} (hj:j<M.n) (v:Int):Calls prog 248 #[some B.lb,j,v] w fun e w'=>e= .returned (.bool (ah M.n X.S j 10))∧be w' B M {X with S:=D5 M.n X.S j 15 v}∧ae [B.sb] w w':=by
 have HT:=aH (lK h hj 15 v);clear h hj;go_enter func248,ntmps248;go_wp2_with fail;refine HT.o.mono ?_;rintro e w' ⟨rfl,hK,hF⟩;have HK:=aH (And.intro hK hF);clear hK hF;go_wp2;go_ret;exact⟨rfl,HK.o⟩
def A5 (M:CP) (x:Int):Int:=wrap64 (wrap64 ((M.tail:Int)+wrap64 (2*x)) - 1)
theorem Kc (h:be w B M X) (x:Int):Calls prog 252 #[some B.lb,x] w fun e w'=>e= .returned (A5 M x:Int)∧w=w':=by
 have c1:=h.box.cell (i:=1) rfl;clear h;go_enter func252,ntmps252;go_wp2;go_ret;exact⟨rfl,rfl⟩
def A6 (M:CP) (x:Int):Int:=wrap64 ((M.tail:Int)+wrap64 (2*x))
theorem Ge (h:be w B M X) (x:Int):Calls prog 253 #[some B.lb,x] w fun e w'=>e= .returned (A6 M x:Int)∧w=w':=by
 have c1:=h.box.cell (i:=1) rfl;clear h;go_enter func253,ntmps253;go_wp2;go_ret;exact⟨rfl,rfl⟩
end
theorem J8 (x:Int):fP (wrap64 x):=by unfold fP wrap64;omega
theorem B1 {x:Int} (h: -1000000≤x∧x≤1000000):fP x:=by unfold fP;omega
theorem bN {A:AR} (h:∀i,fP (A.get i)) {v:Int} (hv:fP v) (i j:Int):fP ((A.put i v).get j):=by
 have hj:=h j;unfold AR.get AR.put at*;have e:AR.has {A with ws:=A.ws.set (i.toNat - 1) v} j=A.has j:=rfl;rw[e]
 split
 ·rename_i hh
  rw[if_pos hh] at hj;rw[List.getElem?_set]
  split
  ·split
   ·exact hv
   ·exact B1 aS
  ·exact hj
 ·exact B1 aO
theorem DL {A:AR} (h:∀i,fP (A.get i)) {v:Int} (hv:fP v) (i j:Int):fP ((A.swap i v).get j):=by
 unfold AR.swap;split
 ·exact bN (A:=A.note 3 i true) h hv i j
 ·exact h j
theorem ix {A:AR} (h:∀i,fP (A.get i)) (i j:Int):fP ((A.load i).get j):=by
 unfold AR.load;split
 ·exact h j
 ·exact h j
theorem oD {A:AR} (h:∀i,fP (A.get i)) (d i j:Int):fP ((A.add i d).get j):=by
 unfold AR.add;split
 ·exact bN (A:=A.note 5 i true) h (J8 _) i j
 ·exact h j
theorem CX {S:Nat→Nat→Int} (h:∀i t,fP (S i t)) {v:Int} (hv:fP v) (a b i t:Nat):fP (ac S a b v i t):=by
 rw[bw];split
 ·exact hv
 ·exact h i t
theorem IA {S:Nat→Nat→Int} (h:∀i t,fP (S i t)) {v:Int} (hv:fP v) (n:Nat) (a b:Int) (i t:Nat):fP (a8 n S a b v i t):=by
 unfold a8;split
 ·exact CX h hv _ _ i t
 ·exact h i t
theorem GT (n:Nat) (D:Nat→Nat) (j:Int):fP (eD n D j):=by
 unfold eD oo fE
 split
 ·split
  ·rename_i h
   have:=of_decide_eq_true h;unfold fP;omega
  ·exact B1 aO
 ·exact B1 aO
structure mS (M:Ca) (k:Nat) (X:Dc):Prop where
 k1:k≤100000
 n32:M.n≤32
 dl: -1000000≤M.delay∧M.delay≤1000000
 d:∀i,X.D i≤k
 a:∀i,fP (X.A.get i)
 s:∀i t,fP (X.S i t)
theorem un {n:Nat} {D:Nat→Nat} {k:Nat} (h:∀i,D i≤k) (j:Int) (i:Nat):x7 n D j i≤k+1:=by
 have:=h i;unfold x7 AV;split
 ·show(if i=j.toNat then D i+1 else D i)≤k+1
  split<;>omega
 ·omega
theorem mS.go {M:Ca} {k:Nat} {X:Dc} (h:mS M k X) (j:Nat):(∀i,(AI M X j).1.D i≤k+1)∧(∀i,fP ((AI M X j).1.A.get i))∧(∀i t,fP ((AI M X j).1.S i t))∧ -1000000≤(AI M X j).2∧(AI M X j).2≤1000000:=by
 have hd:∀i,X.D i≤k+1:=fun i=>by have:=h.d i;omega
 unfold AI
 split
 ·split
  ·exact⟨hd,fun i=>DL h.a (GT _ _ _) _ i,fun i t=>CX h.s (h.a _) _ _ i t,by simp,by simp⟩
  ·split
   ·exact⟨hd,fun i=>DL h.a (GT _ _ _) _ i,fun i t=>CX (fun a b=>CX h.s (h.a _) _ _ a b) (B1 h.dl) _ _ i t,by simp,by simp⟩
   ·exact⟨hd,fun i=>DL h.a (GT _ _ _) _ i,fun i t=>CX (fun a b=>CX h.s (h.a _) _ _ a b) (B1 aO) _ _ i t,by simp,by simp⟩
 ·split
  ·exact⟨hd,h.a,fun i t=>CX h.s (J8 _) _ _ i t,by show -1000000≤(if _ then(2:Int) else 3);split<;>omega,by show(if _ then(2:Int) else 3)≤_;split<;>omega⟩
  ·split
   ·exact⟨hd,fun i=>DL h.a (B1 aO) _ i,fun i t=>CX h.s (h.a _) _ _ i t,by simp,by simp⟩
   ·split
    ·exact⟨hd,fun i=>DL h.a (h.s _ _) _ i,fun i t=>CX h.s (h.a _) _ _ i t,by show -1000000≤(if _ then(10:Int) else 5);split<;>omega,by show(if _ then(10:Int) else 5)≤_;split<;>omega⟩
    ·split
     ·refine⟨hd,fun i=>?_,h.s,by show -1000000≤(if _ then(10:Int) else 5);split<;>omega,by show(if _ then(10:Int) else 5)≤_;split<;>omega⟩;show fP ((X.A.tLook M.uf M.n (X.S j 1)).get i);unfold AR.tLook;split
      ·exact ix h.a _ i
      ·exact h.a i
     ·refine⟨fun i=>un h.d _ i,fun i=>?_,h.s,by simp,by simp⟩;show fP ((X.A.tDone M.uf M.n j).get i);unfold AR.tDone;split
      ·exact oD h.a _ _ i
      ·exact h.a i
theorem mS.step {M:Ca} {k:Nat} {X:Dc} (h:mS M k X) (hk:k<100000) (j:Nat):mS M (k+1) (E5 M X j):=by
 unfold E5;by_cases hm:D1 X j=true
 ·rw[if_pos hm];obtain⟨q1,q2,q3,q4,q5⟩:=h.go j;exact{k1:=hk,n32:=h.n32,dl:=h.dl,d:=q1,a:=q2,s:=fun i t=>CX q3 (B1 ⟨q4,q5⟩) _ _ i t}
 ·rw[if_neg hm];exact{h with k1:=hk,d:=fun i=>by have:=h.d i;omega}
def gR (M:Ca):LP where
 σ:=Dc
 n:=M.n
 shares:=false
 ar:=fun s=>s.A
 I:=mS M
 askR:=fun s i _=>ah M.n s.S i 0
 askS:=fun s i _=>{s with S:=a8 M.n s.S i 0 1}
 leaveR:=fun s i=>ah M.n s.S i 10
 leaveS:=fun s i=>{s with S:=a8 M.n s.S i 10 11}
 stepR:=fun s i=>IT M s i.toNat
 stepS:=fun s i=>E5 M s i.toNat
 sp:=fun s i t=>s.S i.toNat t
 cnt:=fun s i=>if s.S i.toNat 0=10 then 1 else 0
theorem zA (M:Ca):(gR M).Ok:=by
 refine LP.keep_of (fun k s hk h=>?_) (fun k s j r hk h hj _=>?_) (fun k s j hk h hj=>?_) (fun k s j hk h hj=>?_)
 ·exact{h with k1:=hk,d:=fun i=>by have:=h.d i;omega}
 ·exact{h with k1:=hk,d:=fun i=>by have:=h.d i;show s.D i≤_;omega,s:=fun i t=>IA h.s (B1 aO) _ _ _ i t}
 ·exact{h with k1:=hk,d:=fun i=>by have:=h.d i;show s.D i≤_;omega,s:=fun i t=>IA h.s (B1 aO) _ _ _ i t}
 ·exact mS.step (X:=s) h hk (j:Int).toNat
section
variable{w:World} {B:Gj} {M:Ca}
def J3 (M:Ca) (B:Gj):iH (gR M) where
 T:=175
 q:=.pointer (some ⟨B.lb,0,none⟩)
 Z:=DH B
 ab:=B.ab
 wb:=B.wb
 At:=fun w s=>AH w B M s
 nAsk:=254
 rAsk:=.pointer (some ⟨B.lb,0,none⟩)
 nLeave:=255
 rLeave:=.pointer (some ⟨B.lb,0,none⟩)
 nStep:=257
 rStep:=.pointer (some ⟨B.lb,0,none⟩)
 nSpot:=256
 rSpot:=.pointer (some ⟨B.lb,0,none⟩)
 nCount:=0
 rCount:=.nilIface
theorem AQ {p:LP} {i:Int} (h:eO p i):∃j:Nat,i=j∧j<p.n:=by
 obtain⟨h1,h2⟩:=h;exact⟨i.toNat,by omega,by omega⟩
theorem gQ (hn:M.n≤32):(J3 M B).Ok where
 n32:=hn
 sh:=rfl
 mAsk:=fun F w=>by kernel_rfl
 mLeave:=fun F w=>by kernel_rfl
 mStep:=fun F w=>by kernel_rfl
 mSpot:=fun F w=>by kernel_rfl
 eAsk:=fun args w=>by kernel_rfl
 eLeave:=fun args w=>by kernel_rfl
 eStep:=fun args w=>by kernel_rfl
 eSpot:=fun args w=>by kernel_rfl
 cAsk:=fun w k s i hI ha hi=>by
  obtain⟨j,rfl,hj⟩:=AQ hi;exact(ww ha hj).mono (fun e w' ⟨h1,h2,h3⟩=>⟨h1,h2,h3.mono (by simp[J3,DH])⟩)
 cLeave:=fun w k s i hI ha hi=>by
  obtain⟨j,rfl,hj⟩:=AQ hi;exact(mu ha hj).mono (fun e w' ⟨h1,h2,h3⟩=>⟨h1,h2,h3.mono (by simp[J3,DH])⟩)
 cStep:=fun w k s i hI ha hi=>by
  obtain⟨j,rfl,hj⟩:=AQ hi;have hI':mS M k s:=hI;exact sF ha hj (fun i=>Nat.le_trans (hI'.d i) hI'.k1) (hI'.s _ _)
 cSpot:=fun w s i ha hi=>by
  obtain⟨j,rfl,hj⟩:=AQ hi;exact GJ ha hj
 ar:=fun w s ha=>AH.ar ha
 free:=fun w s ha=>AH.free ha
 stay:=fun w w' s S ha hf hs hz=>AH.stays ha hf hs hz
end
section
variable{w:World} {ab wb:Nat} {A:AR} {P T:List Int} {x y:Value} {delay:Int}
def z7 (P T:List Int) (A:AR) (delay:Int):Ca:=⟨P,T,A.taken+1,A.taken+(1+(tE P).length)+1,delay⟩
def zB (P T:List Int) (A:AR):Dc:=⟨{A with taken:=A.taken+(1+(tE P).length)+T.length},fun _ _=>0,fun _=>0⟩
theorem gV (hx:a7 w 0 x P) (hy:a7 w 0 y T) (hT:du P T) (hA:aj w ab wb A) (hr:A.taken+(1+(tE P).length)+T.length≤A.ws.length) (hd:0≤delay∧delay≤1000):
 Calls prog 74 #[some ab,.agg #[x,y],delay] w fun e w'=>∃B:Gj,e= .returned (.tuple #[some B.lb,(0:Int)])∧(B.ab=ab∧B.wb=wb∧w.heap.size≤B.ub∧w.heap.size≤B.sb)∧AH w' B (z7 P T A delay) (zB P T A)∧ae [ab,wb] w w':=by
 obtain⟨s1,s2,s3,s4⟩:=hT.size;have hEl:=iJ P;have mk:=dZ T.length aO;have HPN:=aH (fun(W:World) (hf:ae [] w W)=>eH (hx.frm hf aS) (hy.frm hf aS) hT);have HBR:=aH (fun(W:World)=>Ce delay W);have hbr:(decide ((0:Int)≤delay)&&decide (delay≤1000))=true:=by simp;omega
 rw[hbr] at HBR;have HF0:=aH ((ae.refl [] w).alloc (.cells #[x,y] 24));have hB:=am.new w #[x,y] 24;have t0:=hB.cell (i:=0) rfl;have t1:=hB.cell (i:=1) rfl;have hnot:= @aX prog;have HAR:=aH hA;have HT:=aH hT;have hroom:=hA.room;have hab:=hA.box.lt;have hwb:=hA.row.lt;obtain⟨a1,cap1,rfl, -, -⟩:=hx;obtain⟨a2,cap2,rfl, -, -⟩:=hy;clear hbr hA hT hB;go_enter func74,ntmps74;go_wp2_with fail;refine(HPN.o _ HF0.o).mono ?_;rintro e w1 ⟨tb,rfl,htb,hTb,hF⟩;have HF1:=aH (HF0.o.trans hF);have HT1:=aH hTb;clear hF hTb t0 t1;go_wp2_with fail;refine(HBR.o _).mono ?_;rintro e w' ⟨rfl,rfl⟩;go_wp2_with fail;refine(nI HT1.o HT.o).mono ?_;rintro e w2 ⟨rfl,hTf,hF⟩;have htb0:w.heap.size≤tb:=Nat.le_trans HF0.o.size htb;have HF2:=aH (HF1.o.widen hF (fun z hz=>.inr (by simp at hz;omega)));have HT2:=aH hTf;have e1:A.takeE (1+((tE P).length:Int))=0:=io (m:=1+(tE P).length) aO aO;have e2:A.take (1+((tE P).length:Int))={A with taken:=A.taken+(1+(tE P).length)}:=f9 (m:=1+(tE P).length) aO aO;have e3:A.takeN (1+((tE P).length:Int))=((A.taken+1:Nat):Int):=by unfold AR.takeN;rw[if_pos e1];rfl
 have hTk:=cY (HAR.o.frm HF2.o aS aS) (1+((tE P).length:Int));rw[e1,e2,e3] at hTk;have HTK:=aH hTk;clear hF hTf HT1 HF1 e1 e2 e3 hTk;go_wp2_with fail;refine HTK.o.mono ?_;rintro e w3 ⟨rfl,hA3,hF⟩;have hq3:dI w2 [ab,wb]:=fun z hz=>(HAR.o.frm HF2.o aS aS).fre (by simpa using hz);have HT3:=aH (HT2.o.fre hF hq3);have HF3:=aH ((HF2.o.mono (S':=[ab,wb]) aS).trans hF);have HA3:=aH hA3;clear hF hA3 hq3 HT2 HTK;go_wp2_with fail;refine(jQ HT3.o).mono ?_;rintro e w' ⟨rfl,rfl⟩;have g1:AR.tNewE {A with taken:=A.taken+(1+(tE P).length)} (T.length:Int)=0:=by
  unfold AR.tNewE;rw[if_neg aO];exact io (m:=T.length) (by show A.taken+(1+(tE P).length)+T.length≤A.ws.length;omega) rfl
 have g2:AR.take {A with taken:=A.taken+(1+(tE P).length)} (T.length:Int)={A with taken:=A.taken+(1+(tE P).length)+T.length}:=f9 (A:={A with taken:=A.taken+(1+(tE P).length)}) (m:=T.length) (by show A.taken+(1+(tE P).length)+T.length≤A.ws.length;omega) rfl;have hTn:=CL HA3.o (T.length:Int) g1;rw[g2,Int.toNat_natCast] at hTn;have HTN:=aH hTn;clear g1 g2 hTn;go_wp2_with fail;refine HTN.o.mono ?_;rintro e w4 ⟨ub,rfl,hub,hTr,hA4,hF⟩;have hq3:dI w3 [ab,wb]:=fun z hz=>HA3.o.fre (by simpa using hz);have HT4:=aH (HT3.o.fre hF hq3);have hub0:w.heap.size≤ub:=Nat.le_trans HF3.o.size hub;have HF4:=aH (HF3.o.trans hF);have HA4:=aH hA4;have HTR:=aH hTr;clear hF hA4 hq3 HT3 HTN HA3 hTr;go_wp2_with fail;refine(jQ HT4.o).mono ?_;rintro e w' ⟨rfl,rfl⟩;go_wp2_with fail;go_ret2;have hs1:=(am.new w4 (cq T.length fun _ _=>0).toArray 138).alloc (.cells #[some ab,some tb,((A.taken:Int)+1:Int),some ub,delay,.slice (some ⟨w4.heap.size,0,none⟩) T.length T.length] 220);have hb1:=am.new (w4.alloc (.cells (cq T.length fun _ _=>0).toArray 138)) #[some ab,some tb,((A.taken:Int)+1:Int),some ub,delay,.slice (some ⟨w4.heap.size,0,none⟩) T.length T.length] 220;rw[World.size_alloc] at hb1;have hf6:ae [] w4 ((w4.alloc (.cells (cq T.length fun _ _=>0).toArray 138)).alloc (.cells #[some ab,some tb,((A.taken:Int)+1:Int),some ub,delay,.slice (some ⟨w4.heap.size,0,none⟩) T.length T.length] 220)):=(aF.alloc _).alloc _;exact⟨⟨w4.heap.size+1,tb,ub,w4.heap.size,ab,wb⟩,rfl,⟨rfl,rfl,hub0,HF4.o.size⟩,{box:=hb1,tab:=HT4.o.fre hf6 (dI.nil _),tr:=⟨0,HTR.o.frm hf6 aS⟩,row:=hs1,ar:=HA4.o.frm hf6 aS aS,ok:=HT.o,tl:=by show A.taken+1≤4096;omega},HF4.o.trans (hf6.mono aS)⟩
abbrev vg (P T:List Int) (bud:Int):Ca:=z7 P T (AR.fresh 4096) bud
abbrev vj (P T:List Int):Dc:=zB P T (AR.fresh 4096)
theorem h8I {bud:Int} (hT:du P T) (hb:0≤bud∧bud≤1000):(gR (vg P T bud)).I 0 (vj P T):=by
 have e0:∀i,(vj P T).A.get i=0:=fun i=>by
  have ea:(vj P T).A.ws=List.replicate 4096 0:=rfl;unfold AR.get;split
  ·rw[ea,List.getElem?_replicate];split<;>rfl
  ·rfl
 exact(show mS (vg P T bud) 0 (vj P T) from{k1:=by omega,n32:=hT.size.2.2.2,dl:=by show -1000000≤bud∧bud≤1000000;omega,d:=fun _=>Nat.le_refl _,a:=fun i=>by rw[e0];exact B1 aO,s:=fun _ _=>(show fP 0 from B1 aO)})
theorem ry {g l par bud:Int} (hT:du P T) (hb:0≤bud∧bud≤1000):fN P T 8 g l par bud (gR (vg P T bud)) (vj P T) where
 n:=rfl
 kd13:=by omega
 sh:=rfl
 mks:=fun w ab wb lk x y hx hy hA hL _ _=>by
  have n1:lk≠ab:=hL.differ hA.box aJ;have n2:lk≠wb:=hL.differ hA.row aJ;have hEl:=iJ P;have hsz:=hT.size;have HF0:=aH (((ae.refl [] w).alloc (.cells #[x,y] 24)).alloc (.cells #[g,l,par,bud] 42));have HN:=aH (gV (hx.frm HF0.o aS) (hy.frm HF0.o aS) hT (hA.frm HF0.o aS aS) (by show 0+_+_≤(List.replicate 4096 (0:Int)).length;rw[List.length_replicate];have:=hsz.2.1;have:=hsz.2.2.2;omega) hb);have hB1:=(am.new w #[x,y] 24).alloc (.cells #[g,l,par,bud] 42);have hB2:=am.new (w.alloc (.cells #[x,y] 24)) #[g,l,par,bud] 42;rw[World.size_alloc] at hB2;have HL:=aH (hL.frm HF0.o aS);have c0:=HL.o.cell (i:=0) rfl;have t0:=hB1.cell (i:=0) rfl;have t1:=hB1.cell (i:=1) rfl;have t3:=hB2.cell (i:=3) rfl;have HT32:=aH (show(vg P T bud).n≤32 from hT.size.2.2.2);have hls:=HF0.o.size;obtain⟨a1,cap1,rfl, -, -⟩:=hx;obtain⟨a2,cap2,rfl, -, -⟩:=hy;clear hA hL hB1 hB2 hsz;go_enter func57,ntmps57;go_wp2_with fail;refine HN.o.mono ?_;rintro e w1 ⟨B,rfl,⟨hb1,hb2,hb3,hb4⟩,hC,hF⟩;have hL1:=HL.o.frm hF aQ;have l0:=hL1.cell (i:=2) rfl;have lz:=hL1.frozen;have HL1:=aH hL1;have HC:=aH hC;have HF:=aH ((HF0.o.mono (S':=[ab,wb]) aS).trans hF);have HBB:=aH (And.intro hb1 (And.intro hb2 (And.intro (Nat.le_trans hls hb3) (Nat.le_trans hls hb4))));have HST:=aH (show∀v,AH (w1.setCell (lk,2) v) B (z7 P T (AR.fresh 4096) bud) (zB P T (AR.fresh 4096)) from fun v=>by
   have hf:ae [lk] w1 (w1.setCell (lk,2) v):=aU;obtain⟨m,ht⟩:=hC.tr;have q1:∀{b:Nat} {vs:List Value} {T:TypeId},am w1 b vs T→T≠119→b∉[lk]:=fun h hne hm=>by
    have:=h.differ hL1 hne;simp at hm;exact this hm
   have htab:gh (w1.setCell (lk,2) v) B.tb P T:=by
    obtain⟨vp,vt,vup,vnode,vslot,vm,gt,gn,gs,gm,h1,h2,h3,h4,h5⟩:=hC.tab;have hir:∀{g:Nat} {v':Value} {zs:List Int},IR w1 g v' zs→IR (w1.setCell (lk,2) v) g v' zs:=fun h=>by
     have h0:=h;obtain⟨_,_,_,hh,_⟩:=h;exact h0.frm hf (q1 hh aJ)
    exact⟨vp,vt,vup,vnode,vslot,vm,gt,gn,gs,gm,h1.frm hf (q1 h1 aJ),hir h2,hir h3,hir h4,hir h5⟩
   exact{box:=hC.box.frm hf (q1 hC.box aJ),tab:=htab,tr:=⟨m,ht.frm hf (q1 ht.box aJ)⟩,row:=hC.row.frm hf (q1 hC.row aJ),ar:=hC.ar.frm hf (q1 hC.ar.box aJ) (q1 hC.ar.row aJ),ok:=hC.ok,tl:=hC.tl})
  clear hF hC hL1 hb1 hb2 hb3 hb4;go_wp2;go_ret;refine⟨(J3 (vg P T bud) B).alone 8,(gQ HT32.o).alone_ok 8 aO (fun s i=>rfl),⟨HBB.o.1,rfl⟩,rfl,⟨HL1.o.set 2 _,HST.o _⟩,fun z hz=>?_,(HF.o.mono (S':=[ab,wb,lk]) aS).set _ _ (.inl aS)⟩;obtain⟨e1,e2,e3,e4⟩:=HBB.o;have hz':z=B.ub∨z=B.sb∨z=B.ab∨z=B.wb:=by simpa[iH.alone,J3,DH] using hz
  rcases hz' with e|e|e|e
  ·rw[e];exact .inr (.inr e3)
  ·rw[e];exact .inr (.inr e4)
  ·rw[e];exact .inl e1
  ·rw[e];exact .inr (.inl e2)
theorem mt {g l par bud:Int} (hT:du P T) (hb:0≤bud∧bud≤1000):fR P T (.agg #[(8:Int),g,l,par,bud]) (gR (vg P T bud)) (vj P T) where
 ok:=zA _
 i0:=h8I hT hb
 mks:=fun _ _ _ hx hy=>ey hx hy hT (ry hT hb)
end
section
variable{tail first n:Nat} {bud:Int} {m:MS} {j:Nat}
theorem sk (a b:Int):fD (Go a b):=by
 unfold Go fD
 repeat' split
 all_goals omega
theorem IX {α:Type} (Q:α→Prop) {c:Prop} {inst:Decidable c} {a b:α} (ha:Q a) (hb:Q b):Q (@ite α c inst a b):=by
 by_cases h:c
 ·rw[if_pos h];exact ha
 ·rw[if_neg h];exact hb
theorem bO (Q:MS×Int→Prop) (h0:Q (m,m.S j 0)) (h:∀A B d r,fD r→Q (⟨A,B,d,m.S⟩,r)) (h':∀A B d t v r,fD r→Q (⟨A,B,d,ac m.S j t v⟩,r)):Q (fx tail first n bud m j):=by
 unfold fx pd o9 o3 o4 pf jD jn jo jF jx jr jJ jE js jp jC jq jB jA
 repeat' (refine IX Q ?_ ?_)
 all_goals first|exact h0|exact h _ _ _ _ (by unfold fD;omega)|exact h' _ _ _ _ _ _ (sk _ _)|exact h' _ _ _ _ _ _ (by unfold fD;omega)
theorem si (h:fD (m.S j 0)):fD (fx tail first n bud m j).2:=bO (fun x=>fD x.2) h (fun _ _ _ _ hr=>hr) (fun _ _ _ _ _ _ hr=>hr)
theorem oR {i:Nat} (h:i≠j):(fx tail first n bud m j).1.S i 0=m.S i 0:=
 bO (fun x=>x.1.S i 0=m.S i 0) rfl (fun _ _ _ _ _=>rfl) (fun _ _ _ t v _ _=>by show ac m.S j t v i 0=m.S i 0;unfold ac;rw[if_neg (fun e=>h e.1)])
theorem oX {S:Nat→Nat→Int} (h:∀j,j<n→fD (S j 0)) {v:Int} (hv:fD v) (a:Nat):∀j,j<n→fD (ac S a 0 v j 0):=fun j hj=>by
 unfold ac;split
 ·exact hv
 ·exact h j hj
theorem jW (h:∀j,j<n→fD (m.S j 0)) (hj:j<n):∀i,i<n→fD ((mStep tail first n bud m j).S i 0):=fun i hi=>by
 show fD (ac (fx tail first n bud m j).1.S j 0 (fx tail first n bud m j).2 i 0);unfold ac;by_cases e:i=j
 ·rw[if_pos ⟨e,rfl⟩];exact si (h j hj)
 ·rw[if_neg (fun q=>e q.1),oR e];exact h i hi
end
def sm (tail first n:Nat) (bud:Int):LP where
 σ:=MS
 n:=n
 shares:=false
 ar:=fun m=>m.A
 I:=fun _ m=>∀j,j<n→fD (m.S j 0)
 askR:=fun m i _=>gv n m i 0
 askS:=fun m i _=>nu n m i 0 1
 leaveR:=fun m i=>gv n m i 10
 leaveS:=fun m i=>nu n m i 10 11
 stepR:=fun m i=>nc tail first n bud m i
 stepS:=fun m i=>lQ tail first n bud m i
 sp:=fun m i t=>m.S i.toNat t
 cnt:=fun m i=>if m.S i.toNat 0=10 then 1 else 0
theorem bS {n:Nat} {m:MS} (h:∀j,j<n→fD (m.S j 0)) (i a:Int) {b:Int} (hb:fD b):∀j,j<n→fD ((nu n m i a b).S j 0):=by
 unfold nu;split
 ·exact oX h hb _
 ·exact h
theorem eV {tail first n:Nat} {bud:Int} {m:MS} (h:∀j,j<n→fD (m.S j 0)) (i:Int):∀j,j<n→fD ((lQ tail first n bud m i).S j 0):=by
 unfold lQ;by_cases hs:aZ n i=true
 ·rw[if_pos hs];have hi:0≤i∧i<(n:Int):=by unfold aZ at hs;simpa using hs
  exact jW h aO
 ·rw[if_neg hs];exact h
theorem zI (tail first n:Nat) (bud:Int):(sm tail first n bud).Ok:=by
 refine LP.keep_of (fun k s hk h=>h) (fun k s j r hk h hj _=>bS h _ _ (.inl aO)) (fun k s j hk h hj=>bS h _ _ (.inr aO)) (fun k s j hk h hj=>?_);exact eV h _
section
variable{lb sb bb ab wb tail first n:Nat} {bud:Int}
def JB (lb sb bb ab wb tail first n:Nat) (bud:Int):iH (sm tail first n bud) where
 T:=183
 q:=.pointer (some ⟨lb,0,none⟩)
 Z:=[lb,sb,bb,ab,wb]
 ab:=ab
 wb:=wb
 At:=fun w m=>dX w lb sb bb ab wb tail first n bud m
 nAsk:=304
 rAsk:=.pointer (some ⟨lb,0,none⟩)
 nLeave:=305
 rLeave:=.pointer (some ⟨lb,0,none⟩)
 nStep:=307
 rStep:=.pointer (some ⟨lb,0,none⟩)
 nSpot:=306
 rSpot:=.pointer (some ⟨lb,0,none⟩)
 nCount:=0
 rCount:=.nilIface
theorem dX.z {w:World} {m:MS} (h:dX w lb sb bb ab wb tail first n bud m) {z:Nat} (hz:z∈[lb,sb,bb,ab,wb]):∃vs T,am w z vs T∧T∈sZ:=by
 have h0:bG w lb sb bb ab wb tail first n bud m.A m.B m.d m.S:=h;have hz':z=lb∨z=sb∨z=bb∨z=ab∨z=wb:=by simpa using hz
 rcases hz' with e|e|e|e|e
 ·subst e;exact⟨_,_,h0.box,by decide⟩
 ·subst e;exact⟨_,_,h0.row,by decide⟩
 ·subst e;exact⟨_,_,h0.bn.box,by decide⟩
 ·exact h0.ar.fre (.inl e)
 ·exact h0.ar.fre (.inr e)
theorem jX (hn:n≤32):(JB lb sb bb ab wb tail first n bud).Ok where
 n32:=hn
 sh:=rfl
 mAsk:=fun F w=>by kernel_rfl
 mLeave:=fun F w=>by kernel_rfl
 mStep:=fun F w=>by kernel_rfl
 mSpot:=fun F w=>by kernel_rfl
 eAsk:=fun args w=>by kernel_rfl
 eLeave:=fun args w=>by kernel_rfl
 eStep:=fun args w=>by kernel_rfl
 eSpot:=fun args w=>by kernel_rfl
 cAsk:=fun w k s i hI ha hi=>(Aj ha i).mono (fun e w' ⟨h1,h2,h3⟩=>⟨h1,h2,h3.mono (by simp[JB])⟩)
 cLeave:=fun w k s i hI ha hi=>(tQ ha i).mono (fun e w' ⟨h1,h2,h3⟩=>⟨h1,h2,h3.mono (by simp[JB])⟩)
 cStep:=fun w k s i hI ha hi=>vU ha i hI
 cSpot:=fun w s i ha hi=>by
  have hs:aZ n i=true:=by unfold aZ;exact decide_eq_true hi
  have:=mr ha i;unfold dq at this;rw[if_pos hs] at this;exact this
 ar:=fun w s ha=>bG.ar ha
 free:=fun w s ha z hz=>dX.z ha hz
 stay:=fun w w' s S ha hf hs hz=>dX.frm ha hf (fun k hk hm=>hz k hm hk)
end
section
variable{w:World} {ab wb b1 b2:Nat} {A:AR} {v u:Value} {P T:List Int} {bud:Int}
theorem D8 {A:AR} {k:Nat} (h:A.taken+k≤A.ws.length):A.takeE k=0∧A.takeN k=(A.taken:Int)+1∧A.take k={A with taken:=A.taken+k}:=by
 have h1:A.takeE k=0:=by unfold AR.takeE;rw[if_neg aO,if_neg aO]
 exact⟨h1,by unfold AR.takeN;rw[if_pos h1],by unfold AR.take;rw[if_pos h1];simp⟩
theorem jY (hA:aj w ab wb A) (hx:a7 w b1 v P) (hy:a7 w b2 u T) (hok:du P T) (hb:0≤bud∧bud≤1000) (hr:A.taken+(4+3*T.length)≤A.ws.length) (ht:A.taken≤3000):
 Calls prog 76 #[some ab,.agg #[v,u],bud] w fun e w'=>∃lb sb bb,e= .returned (.tuple #[some lb,(0:Int)])∧w.heap.size≤lb∧w.heap.size≤sb∧w.heap.size≤bb∧
  dX w' lb sb bb ab wb (A.taken+1) (A.taken+1+2+2*T.length) T.length bud ⟨{A with taken:=A.taken+(4+3*T.length)},⟨0,0,0,0⟩,0,fun _ _=>0⟩∧
  ae [ab,wb] w w':=by
 have HC:=aH (fun(W:World) (hf:ae [] w W)=>iZ W (hx.frm hf aS) (hy.frm hf aS) hok);have HR:=aH (fun(W:World)=>Ce bud W);have hbr:(decide ((0:Int)≤bud)&&decide (bud≤1000))=true:=by simp;omega
 rw[hbr] at HR;clear hbr;obtain⟨s1,s2,s3,s4⟩:=hok.size;obtain⟨a,cap,rfl, -, -⟩:=hx;obtain⟨a',cap',rfl, -, -⟩:=hy;have HBD:=aH hb;have mk:=dZ T.length aO;generalize hn:T.length=n at*;obtain⟨t1,t2,t3⟩:=D8 (A:=A) (k:=2+2*n) aO;obtain⟨t4,t5,t6⟩:=D8 (A:={A with taken:=A.taken+(2+2*n)}) (k:=2+n) (by show A.taken+(2+2*n)+(2+n)≤A.ws.length;omega);have hab:=hA.box.lt;have hwb:=hA.row.lt;have HA:=aH hA;have T1:=aH (And.intro t1 (And.intro t2 t3));have T4:=aH (And.intro t4 (And.intro t5 t6));have HRM:=aH hr;have HTT:=aH ht;clear hok hb hA hn t1 t2 t3 t4 t5 t6 hr ht;go_enter func76,ntmps76;go_wp2_with fail;refine(HC.o _ (aF.alloc _)).mono ?_;rintro e w1 ⟨rfl,hF⟩;have k1:=((am.new w #[.slice a P.length cap,.slice a' n cap'] 24).frm hF aS).cell (i:=1) rfl;have hf1:=((ae.refl [] w).alloc (.cells #[.slice a P.length cap,.slice a' n cap'] 24)).trans hF;have HA1:=aH (HA.o.frm hf1 aS aS);have HF:=aH hf1;clear hF hf1;go_wp2_with fail;refine(HR.o _).mono ?_;rintro e w' ⟨rfl,rfl⟩;have hT:=cY HA1.o (2+2*(n:Int));have ec:(2+2*(n:Int))=((2+2*n:Nat):Int):=by omega
 rw[ec,T1.o.1,T1.o.2.1,T1.o.2.2,←ec] at hT;have HTK:=aH hT;clear hT ec;go_wp2_with fail;refine HTK.o.mono ?_;rintro e w2 ⟨rfl,hA2,hF⟩;have HF2:=aH ((HF.o.mono (S':=[ab,wb]) aS).trans hF);have HB:=aH (C8 hA2 n aO aO (by have:=T4.o.1;rw[show((2+n:Nat):Int)=2+(n:Int) by omega] at this;exact this));have hs2:=HF2.o.size;clear hF hA2;go_wp2_with fail;refine HB.o.mono ?_;rintro e w3 ⟨bb,rfl,hbb,hB,hA3,hF⟩;have HF3:=aH (HF2.o.trans hF);have e6:({A with taken:=A.taken+(2+2*n)}:AR).take (2+(n:Int))={A with taken:=A.taken+(4+3*n)}:=by
  have:=T4.o.2.2;rw[show((2+n:Nat):Int)=2+(n:Int) by omega] at this;rw[this];show({A with taken:=A.taken+(2+2*n)+(2+n)}:AR)=_;rw[show A.taken+(2+2*n)+(2+n)=A.taken+(4+3*n) by omega]
 rw[e6] at hA3;have HA3:=aH hA3;have HB3:=aH (show bX w3 bb ab (A.taken+1+2+2*n) n ⟨0,0,0,0⟩ by have:=hB;rwa [show(A.taken+(2+2*n))+1=A.taken+1+2+2*n by omega] at this);have hs3:=HF3.o.size;have hbl:=hB.box.lt;clear hF hA3 hB;clear e6;go_wp2;go_ret2;have ht:=HTT.o;have hr:=HRM.o;have g1:=am.new w3 (cq n (fun _ _=>0)).toArray 138;have g2:=am.new (w3.alloc (.cells (cq n (fun _ _=>0)).toArray 138)) #[some ab,((A.taken:Int)+1:Int),bud,some bb,(0:Int),.slice (some ⟨w3.heap.size,0,none⟩) n n] 229;have hf:ae [] w3 ((w3.alloc (.cells (cq n (fun _ _=>0)).toArray 138)).alloc (.cells #[some ab,((A.taken:Int)+1:Int),bud,some bb,(0:Int),.slice (some ⟨w3.heap.size,0,none⟩) n n] 229)):=(aF.alloc _).alloc _;refine⟨w3.heap.size+1,w3.heap.size,bb,by simp,by omega,by omega,by omega,?_,HF3.o.trans (hf.mono aS)⟩
 ·exact{box:=by simpa using g2,row:=by simpa using g1.alloc _,bn:=HB3.o.frm hf aS,ar:=HA3.o.frm hf aS aS,ne:=by omega,n1:=by omega,n32:=by omega,tb:=by omega,b0:=HBD.o.1,b1:=HBD.o.2}
end
abbrev qD (T:List Int) (bud:Int):LP:=sm 1 (3+2*T.length) T.length bud
abbrev sa (T:List Int):MS:=⟨{AR.fresh 4096 with taken:=4+3*T.length},⟨0,0,0,0⟩,0,fun _ _=>0⟩
theorem oI {P T:List Int} {g l par bud:Int} (hT:du P T) (hb:0≤bud∧bud≤1000):fN P T 10 g l par bud (qD T bud) (sa T) where
 n:=rfl
 kd13:=by omega
 sh:=rfl
 mks:=fun w ab wb lk x y hx hy hA hL _ _=>by
  have n1:lk≠ab:=hL.differ hA.box aJ;have n2:lk≠wb:=hL.differ hA.row aJ;have hsz:=hT.size;have HF0:=aH (((ae.refl [] w).alloc (.cells #[x,y] 24)).alloc (.cells #[g,l,par,bud] 42));have hN:=jY (bud:=bud) (hA.frm HF0.o aS aS) (hx.frm HF0.o aS) (hy.frm HF0.o aS) hT hb (by show 0+_≤(List.replicate 4096 (0:Int)).length;rw[List.length_replicate];have:=hsz.2.2.2;omega) (by show 0≤3000;omega);have e1:(AR.fresh 4096).taken+1=1:=rfl;have e2:(AR.fresh 4096).taken+1+2+2*T.length=3+2*T.length:=by rw[e1]
  have e3:(AR.fresh 4096).taken+(4+3*T.length)=4+3*T.length:=by show 0+_=_;omega
  rw[e2,e1,e3] at hN;have HN:=aH hN;clear hN e1 e2 e3;have hB1:=(am.new w #[x,y] 24).alloc (.cells #[g,l,par,bud] 42);have hB2:=am.new (w.alloc (.cells #[x,y] 24)) #[g,l,par,bud] 42;rw[World.size_alloc] at hB2;have HL:=aH (hL.frm HF0.o aS);have c0:=HL.o.cell (i:=0) rfl;have t0:=hB1.cell (i:=0) rfl;have t1:=hB1.cell (i:=1) rfl;have t3:=hB2.cell (i:=3) rfl;have HT32:=aH (show T.length≤32 from hT.size.2.2.2);have hls:=HF0.o.size;obtain⟨a1,cap1,rfl, -, -⟩:=hx;obtain⟨a2,cap2,rfl, -, -⟩:=hy;clear hA hL hB1 hB2 hsz;go_enter func57,ntmps57;go_wp2_with fail;refine HN.o.mono ?_;rintro e w1 ⟨lb,sb,bb,rfl,hb1,hb2,hb3,hC,hF⟩;have hL1:=HL.o.frm hF aQ;have l0:=hL1.cell (i:=2) rfl;have lz:=hL1.frozen;have HL1:=aH hL1;have HF:=aH ((HF0.o.mono (S':=[ab,wb]) aS).trans hF);have HBB:=aH (And.intro (Nat.le_trans hls hb1) (And.intro (Nat.le_trans hls hb2) (Nat.le_trans hls hb3)));have HST:=aH (show∀v,dX (w1.setCell (lk,2) v) lb sb bb ab wb 1 (3+2*T.length) T.length bud (sa T) from fun v=>by
   have hf:ae [lk] w1 (w1.setCell (lk,2) v):=aU;refine dX.frm hC hf (fun k hk hm=>?_);obtain⟨vs,T',h',hfr⟩:=hC.z hk;obtain rfl:k=lk:=by simpa using hm
   exact absurd rfl (hL1.differ h' (fun e=>absurd (e ▸ hfr) aJ)))
  clear hF hC hL1 hb1 hb2 hb3;go_wp2;go_ret;refine⟨(JB lb sb bb ab wb 1 (3+2*T.length) T.length bud).alone 10,(jX HT32.o).alone_ok 10 aO (fun s i=>rfl),⟨rfl,rfl⟩,rfl,⟨HL1.o.set 2 _,HST.o _⟩,fun z hz=>?_,(HF.o.mono (S':=[ab,wb,lk]) aS).set _ _ (.inl aS)⟩;obtain⟨e1,e2,e3⟩:=HBB.o;have hz':z=lb∨z=sb∨z=bb∨z=ab∨z=wb:=by simpa[iH.alone,JB] using hz
  rcases hz' with e|e|e|e|e
  ·rw[e];exact .inr (.inr e1)
  ·rw[e];exact .inr (.inr e2)
  ·rw[e];exact .inr (.inr e3)
  ·rw[e];exact .inl rfl
  ·rw[e];exact .inr (.inl rfl)
theorem jK {P T:List Int} {g l par bud:Int} (hT:du P T) (hb:0≤bud∧bud≤1000):fR P T (.agg #[(10:Int),g,l,par,bud]) (qD T bud) (sa T) where
 ok:=zI _ _ _ _
 i0:=fun _ _=>.inl (by show(0:Int)≤0∧(0:Int)≤5;omega)
 mks:=fun _ _ _ hx hy=>ey hx hy hT (oI hT hb)
end Go.Proofs.YteijjhahgabalaaGreat
