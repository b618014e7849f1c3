/- The contracts of package bench. (Printed by gen_bench.py.) -/
import Derived.Test.YteijjhahgabalaaGreatWA06
import Derived.Test.YteijjhahgabalaaGreatWA08
set_option maxRecDepth 100000
set_option maxHeartbeats 8000000
set_option linter.all false
namespace Go.Proofs.YteijjhahgabalaaGreat
open Go.RowKit
open Tryz
structure BK where
 step:Int
 x:Int
 n:Int
 got:Int
structure bX (w:World) (bb ab first things:Nat) (B:BK):Prop where
 box:am w bb [some ab,first,things,B.step,B.x,B.n,B.got] 254
 t1:1≤things
 t32:things≤32
 fb:first≤4096
 st:0≤B.step∧B.step≤8
theorem bX.frm {w w':World} {bb ab first things:Nat} {B:BK} (h:bX w bb ab first things B) {Z:List Nat} (hf:ae Z w w') (h1:bb∉Z):bX w' bb ab first things B:={h with box:=h.box.frm hf h1}
section
variable{w:World} {bb ab first things:Nat} {st x n got:Int}
theorem bX.set3 (h:bX w bb ab first things ⟨st,x,n,got⟩) (v:Int) (hv:0≤v∧v≤8):bX (w.setCell (bb,3) (.int .i64 v)) bb ab first things ⟨v,x,n,got⟩:={h with box:=h.box.set 3 (.int .i64 v),st:=hv}
theorem bX.set4 (h:bX w bb ab first things ⟨st,x,n,got⟩) (v:Int):bX (w.setCell (bb,4) (.int .i64 v)) bb ab first things ⟨st,v,n,got⟩:={h with box:=h.box.set 4 (.int .i64 v)}
theorem bX.set5 (h:bX w bb ab first things ⟨st,x,n,got⟩) (v:Int):bX (w.setCell (bb,5) (.int .i64 v)) bb ab first things ⟨st,x,v,got⟩:={h with box:=h.box.set 5 (.int .i64 v)}
theorem bX.set6 (h:bX w bb ab first things ⟨st,x,n,got⟩) (v:Int):bX (w.setCell (bb,6) (.int .i64 v)) bb ab first things ⟨st,x,n,v⟩:={h with box:=h.box.set 6 (.int .i64 v)}
end
def gd (first:Nat) (x:Int):Int:=wrap64 ((first:Int)+1+x)
section
variable{w:World} {bb ab first things:Nat} {B:BK}
theorem gU (h:bX w bb ab first things B) (y:Int):Calls prog 324 #[some bb,y] w fun e w'=>e= .returned (gd first y:Int)∧w=w':=by
 have c1:=h.box.cell (i:=1) rfl;have hfb:=h.fb;clear h;unfold gd;go_enter func324,ntmps324;go_wp2;go_ret;exact⟨rfl,rfl⟩
theorem nC (h:bX w bb ab first things B):Calls prog 320 #[some bb] w fun e w'=>e= .returned (.bool (B.step !=0))∧w=w':=by
 have c3:=h.box.cell (i:=3) rfl;clear h;generalize B.step=st at*;go_enter func320,ntmps320;go_wp2;go_ret;exact⟨rfl,rfl⟩
theorem nk (h:bX w bb ab first things B):Calls prog 323 #[some bb] w fun e w'=>e= .returned B.got∧w=w':=by
 have c6:=h.box.cell (i:=6) rfl;clear h;go_enter func323,ntmps323;go_wp2;go_ret;exact⟨rfl,rfl⟩
end
section
variable{w:World} {bb ab wb first things:Nat} {A:AR} {st x n got:Int}
theorem ob (h:bX w bb ab first things ⟨st,x,n,got⟩):Calls prog 325 #[some bb] w fun e w'=>e= .returned true∧bX w' bb ab first things ⟨0,x,n,got⟩∧ae [bb] w w':=by
 have hz:=h.box.frozen;have c3:=h.box.cell (i:=3) rfl;have H:=aH (h.set3 0 aO);clear h;go_enter func325,ntmps325;go_wp2;go_ret;exact⟨rfl,H.o,(ae.refl [bb] w).set ⟨bb,3,none⟩ _ (.inl aS)⟩
theorem Ho (h:bX w bb ab first things ⟨1,x,n,got⟩) (hA:aj w ab wb A) (hne:bb≠ab∧bb≠wb):Calls prog 321 #[some bb] w fun e w'=>e= .returned false∧
 bX w' bb ab first things ⟨2,x,n,got⟩∧aj w' ab wb (A.store (gd first x) 0)∧ae [bb,ab,wb] w w':=by
 obtain⟨n1,n2⟩:=hne;have hfb:=h.fb;have c3:=h.box.cell (i:=3) rfl;have c4:=h.box.cell (i:=4) rfl;have c5:=h.box.cell (i:=5) rfl;have c1:=h.box.cell (i:=1) rfl;have H:=aH h;have HN:=aH (And.intro n1 n2);have hne:=aW [ab,wb] w;have hz0:∀q:HW (fun wx=>ae [ab,wb] w wx),q.w.cell? (bb,0)=some (.pointer (some ⟨ab,0,none⟩)):=fun q=>(h.box.frm q.h aQ).cell (i:=0) rfl;have hz1:∀q:HW (fun wx=>ae [ab,wb] w wx),q.w.cell? (bb,1)=some (.int .i64 first):=fun q=>(h.box.frm q.h aQ).cell (i:=1) rfl;have hz4:∀q:HW (fun wx=>ae [ab,wb] w wx),q.w.cell? (bb,4)=some (.int .i64 x):=fun q=>(h.box.frm q.h aQ).cell (i:=4) rfl;have hz5:∀q:HW (fun wx=>ae [ab,wb] w wx),q.w.cell? (bb,5)=some (.int .i64 n):=fun q=>(h.box.frm q.h aQ).cell (i:=5) rfl;have HLK:=aH (fun(W:World) (hf:ae [] w W) (y:Int)=>gU (h.frm hf aS) y);have HA:=aH hA;clear h hA n1 n2;go_enter func321,ntmps321;go_wp2_with fail;refine aG (fun wx=>ae [ab,wb] w wx) ?_;refine aR (fuel:=2) [0,1,2,3,4,5,6,7,8] rfl aF.drew1 ?_;intro K hK;repeat (go_big_quiet_step (fail))
 refine wpQuiet_nil (hK _ ?_);clear hK K;refine aL 9 (fuel:=1) rfl ?_;go_wp2_with fail;refine(HLK.o _ (aF.drew1) _).mono ?_;rintro e w' ⟨rfl,rfl⟩;go_wp2_with fail;refine af ⟨aF.drew1,?_⟩;refine aL 10 (fuel:=0) rfl ?_;go_wp2_with fail;refine(au (HA.o.frm (S:=[]) ((ae.refl _ w).drew1) aS aS) (gd first x) (0)).mono ?_;rintro e w1 ⟨rfl,hA,hF⟩;have HA1:=aH hA;have HF1:=aH (((ae.refl [ab,wb] w).drew1).trans hF);have H1:=aH (H.o.frm HF1.o aV);have k3:=H1.o.box.cell (i:=3) rfl;have k4:=H1.o.box.cell (i:=4) rfl;have k5:=H1.o.box.cell (i:=5) rfl;have kz:=H1.o.box.frozen;clear hA hF;go_wp2_with fail;refine af ⟨HF1.o,?_⟩;refine aN ?_;clear hne hz0 hz1 hz4 hz5;have hB2:=(H1.o).set3 (2) aO;have hA2:=(HA1.o).frm ((ae.refl [bb] _).set ⟨bb,3,none⟩ (.int .i64 2) (.inl aS)) aV aV;have hF2:=(HF1.o.mono (S':=[bb,ab,wb]) aS).set ⟨bb,3,none⟩ (.int .i64 2) (.inl aS);have HR:=aH (And.intro hB2 (And.intro hA2 hF2));clear hB2 hA2 hF2;go_wp2;go_ret;exact⟨rfl,HR.o.1,HR.o.2.1,HR.o.2.2⟩
theorem Jo (h:bX w bb ab first things ⟨2,x,n,got⟩) (hA:aj w ab wb A) (hne:bb≠ab∧bb≠wb):Calls prog 321 #[some bb] w fun e w'=>e= .returned false∧
 bX w' bb ab first things ⟨3,x,A.get (first+1),got⟩∧aj w' ab wb (A.load (first+1))∧ae [bb,ab,wb] w w':=by
 obtain⟨n1,n2⟩:=hne;have hfb:=h.fb;have c3:=h.box.cell (i:=3) rfl;have c4:=h.box.cell (i:=4) rfl;have c5:=h.box.cell (i:=5) rfl;have c1:=h.box.cell (i:=1) rfl;have H:=aH h;have HN:=aH (And.intro n1 n2);have hne:Nonempty (HW (fun wx=>ae [bb,ab,wb] w wx∧wx.cell? (bb,0)=some (.pointer (some ⟨ab,0,none⟩))∧wx.cell? (bb,1)=some (.int .i64 first)∧wx.cell? (bb,4)=some (.int .i64 x))):=⟨⟨w,⟨aF,h.box.cell (i:=0) rfl,h.box.cell (i:=1) rfl,h.box.cell (i:=4) rfl⟩⟩⟩
 have hz0:∀q:HW (fun wx=>ae [bb,ab,wb] w wx∧wx.cell? (bb,0)=some (.pointer (some ⟨ab,0,none⟩))∧wx.cell? (bb,1)=some (.int .i64 first)∧wx.cell? (bb,4)=some (.int .i64 x)),q.w.cell? (bb,0)=some (.pointer (some ⟨ab,0,none⟩)):=fun q=>q.h.2.1;have hz1:∀q:HW (fun wx=>ae [bb,ab,wb] w wx∧wx.cell? (bb,0)=some (.pointer (some ⟨ab,0,none⟩))∧wx.cell? (bb,1)=some (.int .i64 first)∧wx.cell? (bb,4)=some (.int .i64 x)),q.w.cell? (bb,1)=some (.int .i64 first):=fun q=>q.h.2.2.1;have hz4:∀q:HW (fun wx=>ae [bb,ab,wb] w wx∧wx.cell? (bb,0)=some (.pointer (some ⟨ab,0,none⟩))∧wx.cell? (bb,1)=some (.int .i64 first)∧wx.cell? (bb,4)=some (.int .i64 x)),q.w.cell? (bb,4)=some (.int .i64 x):=fun q=>q.h.2.2.2;have HLK:=aH (fun(W:World) (hf:ae [] w W) (y:Int)=>gU (h.frm hf aS) y);have HA:=aH hA;clear h hA n1 n2;go_enter func321,ntmps321;go_wp2_with fail;refine aG (fun wx=>ae [bb,ab,wb] w wx∧wx.cell? (bb,0)=some (.pointer (some ⟨ab,0,none⟩))∧wx.cell? (bb,1)=some (.int .i64 first)∧wx.cell? (bb,4)=some (.int .i64 x)) ?_;refine aR (fuel:=4) [0,1,2,3,4,5,6,7,8,9] rfl ⟨aF.drew1,H.o.box.drew1.cell (i:=0) rfl,H.o.box.drew1.cell (i:=1) rfl,H.o.box.drew1.cell (i:=4) rfl⟩ ?_;intro K hK;repeat (go_big_quiet_step (fail))
 refine wpQuiet_nil (hK _ ?_);clear hK K;refine aL 10 (fuel:=3) rfl ?_;go_wp2_with fail;refine(bq (HA.o.frm (S:=[]) ((ae.refl _ w).drew1) aS aS) (first+1)).mono ?_;rintro e w1 ⟨rfl,hA,hF⟩;have HA1:=aH hA;have HF1:=aH (((ae.refl [ab,wb] w).drew1).trans hF);have H1:=aH (H.o.frm HF1.o aV);have k3:=H1.o.box.cell (i:=3) rfl;have k4:=H1.o.box.cell (i:=4) rfl;have k5:=H1.o.box.cell (i:=5) rfl;have kz:=H1.o.box.frozen;clear hA hF;go_wp2_with fail;refine af ⟨⟨HF1.o.mono aS,H1.o.box.cell (i:=0) rfl,H1.o.box.cell (i:=1) rfl,H1.o.box.cell (i:=4) rfl⟩,?_⟩;refine aR (fuel:=1) [11,12] rfl ⟨HF1.o.mono aS,H1.o.box.cell (i:=0) rfl,H1.o.box.cell (i:=1) rfl,H1.o.box.cell (i:=4) rfl⟩ ?_;intro K hK;repeat (go_big_quiet_step (fail))
 refine wpQuiet_nil (hK _ ?_);clear hK K;refine aL 13 (fuel:=0) rfl ?_;go_wp2_with fail;refine af ⟨⟨(HF1.o.mono (S':=[bb,ab,wb]) aS).set ⟨bb,5,none⟩ (.int .i64 (A.get (first+1))) (.inl aS),(H1.o.box.set 5 (.int .i64 (A.get (first+1)))).cell (i:=0) rfl,(H1.o.box.set 5 (.int .i64 (A.get (first+1)))).cell (i:=1) rfl,(H1.o.box.set 5 (.int .i64 (A.get (first+1)))).cell (i:=4) rfl⟩,?_⟩;refine aN ?_;have HB:=aH ((H1.o).set5 ((A.get (first+1))));have HA2:=aH ((HA1.o).frm ((ae.refl [bb] _).set ⟨bb,5,none⟩ (.int .i64 (A.get (first+1))) (.inl aS)) aV aV);have HF2:=aH ((HF1.o.mono (S':=[bb,ab,wb]) aS).set ⟨bb,5,none⟩ (.int .i64 (A.get (first+1))) (.inl aS));clear k3 k4 k5 kz;generalize(w1.setCell (bb,5) (.int .i64 (A.get (first+1))))=W2 at*;have k3:=HB.o.box.cell (i:=3) rfl;have k4:=HB.o.box.cell (i:=4) rfl;have k5:=HB.o.box.cell (i:=5) rfl;have kz:=HB.o.box.frozen;clear hne hz0 hz1 hz4;have HR:=aH (And.intro (HB.o.set3 3 aO) (And.intro (HA2.o.frm ((ae.refl [bb] _).set ⟨bb,3,none⟩ (.int .i64 3) (.inl aS)) aV aV) (HF2.o.set ⟨bb,3,none⟩ (.int .i64 3) (.inl aS))));clear HB HA2 HF2 H1 HA1 HF1;go_wp2;go_ret;exact⟨rfl,HR.o.1,HR.o.2.1,HR.o.2.2⟩
theorem nQ:(∀{w:World} {bb ab wb first things:Nat} {A:AR} {x n got:Int} (h:bX w bb ab first things ⟨3,x,n,got⟩) (hA:aj w ab wb A) (hne:bb≠ab∧bb≠wb) (hg:¬n=0),Calls prog 321 #[some bb] w fun e w'=>e= .returned false∧bX w' bb ab first things ⟨4,x,n,got⟩∧aj w' ab wb (A.store (gd first n) x)∧ae [bb,ab,wb] w w')∧(∀{w:World} {bb ab wb first things:Nat} {A:AR} {x n got:Int} (h:bX w bb ab first things ⟨3,x,n,got⟩) (hA:aj w ab wb A) (hne:bb≠ab∧bb≠wb) (hg:n=0),Calls prog 321 #[some bb] w fun e w'=>e= .returned false∧bX w' bb ab first things ⟨4,x,n,got⟩∧aj w' ab wb (A.store first x)∧ae [bb,ab,wb] w w')∧(∀{w:World} {bb ab wb first things:Nat} {A:AR} {x n got:Int} (h:bX w bb ab first things ⟨4,x,n,got⟩) (hA:aj w ab wb A) (hne:bb≠ab∧bb≠wb),Calls prog 321 #[some bb] w fun e w'=>e= .returned true∧bX w' bb ab first things ⟨0,x,n,got⟩∧aj w' ab wb (A.store (first+1) x)∧ae [bb,ab,wb] w w'):=by
 refine⟨?_,?_,?_⟩;iterate 2
  intro w bb ab wb first things A x n got h hA hne hg;rotate_left
 intro w bb ab wb first things A x n got h hA hne;rotate_left;all_goals
  obtain⟨n1,n2⟩:=hne
 have e0:(n !=0)=true:=by simpa using hg
 clear hg;rotate_left;have e0:(n !=0)=false:=by simpa using hg
 clear hg;rotate_left;rotate_left;all_goals
  have hfb:=h.fb;have c3:=h.box.cell (i:=3) rfl;have c4:=h.box.cell (i:=4) rfl;have c5:=h.box.cell (i:=5) rfl;have c1:=h.box.cell (i:=1) rfl;have H:=aH h;have HN:=aH (And.intro n1 n2);have hne:=aW [ab,wb] w;have hz0:∀q:HW (fun wx=>ae [ab,wb] w wx),q.w.cell? (bb,0)=some (.pointer (some ⟨ab,0,none⟩)):=fun q=>(h.box.frm q.h aQ).cell (i:=0) rfl;have hz1:∀q:HW (fun wx=>ae [ab,wb] w wx),q.w.cell? (bb,1)=some (.int .i64 first):=fun q=>(h.box.frm q.h aQ).cell (i:=1) rfl;have hz4:∀q:HW (fun wx=>ae [ab,wb] w wx),q.w.cell? (bb,4)=some (.int .i64 x):=fun q=>(h.box.frm q.h aQ).cell (i:=4) rfl;have hz5:∀q:HW (fun wx=>ae [ab,wb] w wx),q.w.cell? (bb,5)=some (.int .i64 n):=fun q=>(h.box.frm q.h aQ).cell (i:=5) rfl;have HLK:=aH (fun(W:World) (hf:ae [] w W) (y:Int)=>gU (h.frm hf aS) y);have HA:=aH hA;clear h hA n1 n2;go_enter func321,ntmps321;go_wp2_with fail
 focus
  refine(HLK.o _ aF _).mono ?_;rintro e w' ⟨rfl,rfl⟩;go_wp2_with fail
 rotate_left;rotate_left 2;all_goals
  refine aG (fun wx=>ae [ab,wb] w wx) ?_
 iterate 2
  refine aR (fuel:=1) [0,1,2,3,4,5,6,7,8] rfl aF.drew1 ?_;rotate_left
 refine aR (fuel:=1) [0,1,2,3,4,5,6,7,8,9,10,11,12] rfl aF.drew1 ?_;rotate_left;all_goals
  intro K hK;repeat (go_big_quiet_step (fail))
  refine wpQuiet_nil (hK _ ?_);clear hK K
 iterate 2
  refine aL 9 (fuel:=0) rfl ?_;rotate_left
 refine aL 13 (fuel:=0) rfl ?_;rotate_left;all_goals
  go_wp2_with fail
 refine(au (HA.o.frm (S:=[]) ((ae.refl _ w).drew1) aS aS) (gd first n) (x)).mono ?_;rintro e w1 ⟨rfl,hA,hF⟩;have HA1:=aH hA;have HF1:=aH (((ae.refl [ab,wb] w).drew1).trans hF);have H1:=aH (H.o.frm HF1.o aV);have k3:=H1.o.box.cell (i:=3) rfl;have k4:=H1.o.box.cell (i:=4) rfl;have k5:=H1.o.box.cell (i:=5) rfl;have kz:=H1.o.box.frozen;clear hA hF;rotate_left;refine(au (HA.o.frm (S:=[]) ((ae.refl _ w).drew1) aS aS) (first) (x)).mono ?_;rintro e w1 ⟨rfl,hA,hF⟩;have HA1:=aH hA;have HF1:=aH (((ae.refl [ab,wb] w).drew1).trans hF);have H1:=aH (H.o.frm HF1.o aV);have k3:=H1.o.box.cell (i:=3) rfl;have k4:=H1.o.box.cell (i:=4) rfl;have k5:=H1.o.box.cell (i:=5) rfl;have kz:=H1.o.box.frozen;clear hA hF;rotate_left;refine(au (HA.o.frm (S:=[]) ((ae.refl _ w).drew1) aS aS) (first+1) (x)).mono ?_;rintro e w1 ⟨rfl,hA,hF⟩;have HA1:=aH hA;have HF1:=aH (((ae.refl [ab,wb] w).drew1).trans hF);have H1:=aH (H.o.frm HF1.o aV);have k3:=H1.o.box.cell (i:=3) rfl;have k4:=H1.o.box.cell (i:=4) rfl;have k5:=H1.o.box.cell (i:=5) rfl;have kz:=H1.o.box.frozen;clear hA hF;rotate_left;all_goals
  go_wp2_with fail;refine af ⟨HF1.o,?_⟩;refine aN ?_;have HB:=aH (H1.o);have HA2:=aH (HA1.o);have HF2:=aH (HF1.o.mono (S':=[bb,ab,wb]) aS);clear k3 k4 k5 kz;have k3:=HB.o.box.cell (i:=3) rfl;have k4:=HB.o.box.cell (i:=4) rfl;have k5:=HB.o.box.cell (i:=5) rfl;have kz:=HB.o.box.frozen;clear hne hz0 hz1 hz4 hz5
 iterate 2
  have HR:=aH (And.intro (HB.o.set3 4 aO) (And.intro (HA2.o.frm ((ae.refl [bb] _).set ⟨bb,3,none⟩ (.int .i64 4) (.inl aS)) aV aV) (HF2.o.set ⟨bb,3,none⟩ (.int .i64 4) (.inl aS))));clear HB HA2 HF2 H1 HA1 HF1;rotate_left
 focus
  go_wp2_with fail;refine(ob HB.o).mono ?_;rintro e w3 ⟨rfl,hB,hF⟩;have HB3:=aH hB;have HF3:=aH (HF2.o.trans (hF.mono aS));have HA3:=aH (HA2.o.frm hF aV aV);clear hB hF
 rotate_left;all_goals
  go_wp2;go_ret
 iterate 2
  exact⟨rfl,HR.o.1,HR.o.2.1,HR.o.2.2⟩
 ·exact⟨rfl,HB3.o,HA3.o,HF3.o⟩
def Gc:= @And.left _ _ nQ
def Ft:= @And.left _ _ (@And.right _ _ nQ)
def Jb:= @And.right _ _ (@And.right _ _ nQ)
theorem r5:(∀{w:World} {bb ab wb first things:Nat} {A:AR} {x n got:Int} (h:bX w bb ab first things ⟨5,x,n,got⟩) (hA:aj w ab wb A) (hne:bb≠ab∧bb≠wb) (hg:A.get first=0),Calls prog 322 #[some bb] w fun e w'=>e= .returned true∧bX w' bb ab first things ⟨0,0,n,0⟩∧aj w' ab wb (A.load first)∧ae [bb,ab,wb] w w')∧(∀{w:World} {bb ab wb first things:Nat} {A:AR} {x n got:Int} (h:bX w bb ab first things ⟨5,x,n,got⟩) (hA:aj w ab wb A) (hne:bb≠ab∧bb≠wb) (hg:¬A.get first=0),Calls prog 322 #[some bb] w fun e w'=>e= .returned false∧bX w' bb ab first things ⟨6,A.get first,n,got⟩∧aj w' ab wb (A.load first)∧ae [bb,ab,wb] w w'):=by
 refine⟨?_,?_⟩;all_goals
  intro w bb ab wb first things A x n got h hA hne hg
 all_goals
  obtain⟨n1,n2⟩:=hne
 have HG:=aH hg;rotate_left;generalize hv:A.get (first:Int)=v at hg⊢;have HG:=aH hv;clear hv;have e0:(v==0)=false:=by simpa using hg
 rotate_left;all_goals
  clear hg;have hfb:=h.fb;have c3:=h.box.cell (i:=3) rfl;have c4:=h.box.cell (i:=4) rfl;have c5:=h.box.cell (i:=5) rfl;have c1:=h.box.cell (i:=1) rfl;have H:=aH h;have HN:=aH (And.intro n1 n2);have hne:Nonempty (HW (fun wx=>ae [bb,ab,wb] w wx∧wx.cell? (bb,0)=some (.pointer (some ⟨ab,0,none⟩))∧wx.cell? (bb,1)=some (.int .i64 first))):=⟨⟨w,⟨aF,h.box.cell (i:=0) rfl,h.box.cell (i:=1) rfl⟩⟩⟩
  have hz0:∀q:HW (fun wx=>ae [bb,ab,wb] w wx∧wx.cell? (bb,0)=some (.pointer (some ⟨ab,0,none⟩))∧wx.cell? (bb,1)=some (.int .i64 first)),q.w.cell? (bb,0)=some (.pointer (some ⟨ab,0,none⟩)):=fun q=>q.h.2.1;have hz1:∀q:HW (fun wx=>ae [bb,ab,wb] w wx∧wx.cell? (bb,0)=some (.pointer (some ⟨ab,0,none⟩))∧wx.cell? (bb,1)=some (.int .i64 first)),q.w.cell? (bb,1)=some (.int .i64 first):=fun q=>q.h.2.2;have HLK:=aH (fun(W:World) (hf:ae [] w W) (y:Int)=>gU (h.frm hf aS) y);have HA:=aH hA;clear h hA n1 n2;go_enter func322,ntmps322;go_wp2_with fail;refine aG (fun wx=>ae [bb,ab,wb] w wx∧wx.cell? (bb,0)=some (.pointer (some ⟨ab,0,none⟩))∧wx.cell? (bb,1)=some (.int .i64 first)) ?_;refine aR (fuel:=4) [0,1,2,3,4,5,6,7,8] rfl ⟨aF.drew1,H.o.box.drew1.cell (i:=0) rfl,H.o.box.drew1.cell (i:=1) rfl⟩ ?_;intro K hK;repeat (go_big_quiet_step (fail))
  refine wpQuiet_nil (hK _ ?_);clear hK K;refine aL 9 (fuel:=3) rfl ?_;go_wp2_with fail;refine(bq (HA.o.frm (S:=[]) ((ae.refl _ w).drew1) aS aS) (first)).mono ?_;rw[HG.o];rintro e w1 ⟨rfl,hA,hF⟩;have HA1:=aH hA;have HF1:=aH (((ae.refl [ab,wb] w).drew1).trans hF);have H1:=aH (H.o.frm HF1.o aV);have k3:=H1.o.box.cell (i:=3) rfl;have k4:=H1.o.box.cell (i:=4) rfl;have k5:=H1.o.box.cell (i:=5) rfl;have kz:=H1.o.box.frozen;clear hA hF;go_wp2_with fail;refine af ⟨⟨HF1.o.mono aS,H1.o.box.cell (i:=0) rfl,H1.o.box.cell (i:=1) rfl⟩,?_⟩;refine aR (fuel:=1) [10,11] rfl ⟨HF1.o.mono aS,H1.o.box.cell (i:=0) rfl,H1.o.box.cell (i:=1) rfl⟩ ?_;intro K hK;repeat (go_big_quiet_step (fail))
  refine wpQuiet_nil (hK _ ?_);clear hK K;refine aL 12 (fuel:=0) rfl ?_;go_wp2_with fail
 refine af ⟨⟨(HF1.o.mono (S':=[bb,ab,wb]) aS).set ⟨bb,4,none⟩ (.int .i64 0) (.inl aS),(H1.o.box.set 4 (.int .i64 0)).cell (i:=0) rfl,(H1.o.box.set 4 (.int .i64 0)).cell (i:=1) rfl⟩,?_⟩;rotate_left;refine af ⟨⟨(HF1.o.mono (S':=[bb,ab,wb]) aS).set ⟨bb,4,none⟩ (.int .i64 v) (.inl aS),(H1.o.box.set 4 (.int .i64 v)).cell (i:=0) rfl,(H1.o.box.set 4 (.int .i64 v)).cell (i:=1) rfl⟩,?_⟩;rotate_left;all_goals
  refine aN ?_
 have HB:=aH ((H1.o).set4 (0));have HA2:=aH ((HA1.o).frm ((ae.refl [bb] _).set ⟨bb,4,none⟩ (.int .i64 0) (.inl aS)) aV aV);have HF2:=aH ((HF1.o.mono (S':=[bb,ab,wb]) aS).set ⟨bb,4,none⟩ (.int .i64 0) (.inl aS));rotate_left;have HB:=aH ((H1.o).set4 (v));have HA2:=aH ((HA1.o).frm ((ae.refl [bb] _).set ⟨bb,4,none⟩ (.int .i64 v) (.inl aS)) aV aV);have HF2:=aH ((HF1.o.mono (S':=[bb,ab,wb]) aS).set ⟨bb,4,none⟩ (.int .i64 v) (.inl aS));rotate_left;all_goals
  clear k3 k4 k5 kz
 generalize(w1.setCell (bb,4) (.int .i64 0))=W2 at*;rotate_left;generalize(w1.setCell (bb,4) (.int .i64 v))=W2 at*;rotate_left;all_goals
  have k3:=HB.o.box.cell (i:=3) rfl;have k4:=HB.o.box.cell (i:=4) rfl;have k5:=HB.o.box.cell (i:=5) rfl;have kz:=HB.o.box.frozen;clear hne hz0 hz1
 have k6:=HB.o.box.cell (i:=6) rfl;have HB6:=aH (HB.o.set6 0);have HA6:=aH (HA2.o.frm ((ae.refl [bb] _).set ⟨bb,6,none⟩ (.int .i64 0) (.inl aS)) aV aV);have HF6:=aH (HF2.o.set ⟨bb,6,none⟩ (.int .i64 0) (.inl aS));rotate_left;have HR:=aH (And.intro (HB.o.set3 6 aO) (And.intro (HA2.o.frm ((ae.refl [bb] _).set ⟨bb,3,none⟩ (.int .i64 6) (.inl aS)) aV aV) (HF2.o.set ⟨bb,3,none⟩ (.int .i64 6) (.inl aS))));rotate_left;all_goals
  clear HB HA2 HF2 H1 HA1 HF1
 focus
  go_wp2_with fail;refine(ob HB6.o).mono ?_;rintro e w3 ⟨rfl,hB,hF⟩;have HB3:=aH hB;have HF3:=aH (HF6.o.trans (hF.mono aS));have HA3:=aH (HA6.o.frm hF aV aV);clear hB hF
 rotate_left;rotate_left;all_goals
  go_wp2;go_ret
 ·exact⟨rfl,HB3.o,HA3.o,HF3.o⟩
 ·exact⟨rfl,HR.o.1,HR.o.2.1,HR.o.2.2⟩
def Cd:= @And.left _ _ r5
def Bt:= @And.right _ _ r5
theorem EM (h:bX w bb ab first things ⟨6,x,n,got⟩) (hA:aj w ab wb A) (hne:bb≠ab∧bb≠wb):Calls prog 322 #[some bb] w fun e w'=>e= .returned false∧
 bX w' bb ab first things ⟨7,x,A.get (gd first x),got⟩∧aj w' ab wb (A.load (gd first x))∧ae [bb,ab,wb] w w':=by
 obtain⟨n1,n2⟩:=hne;generalize hv:A.get (gd first x)=v at⊢;have HG:=aH hv;clear hv;have hfb:=h.fb;have c3:=h.box.cell (i:=3) rfl;have c4:=h.box.cell (i:=4) rfl;have c5:=h.box.cell (i:=5) rfl;have c1:=h.box.cell (i:=1) rfl;have H:=aH h;have HN:=aH (And.intro n1 n2);have hne:Nonempty (HW (fun wx=>ae [bb,ab,wb] w wx∧wx.cell? (bb,0)=some (.pointer (some ⟨ab,0,none⟩))∧wx.cell? (bb,1)=some (.int .i64 first)∧wx.cell? (bb,4)=some (.int .i64 x))):=⟨⟨w,⟨aF,h.box.cell (i:=0) rfl,h.box.cell (i:=1) rfl,h.box.cell (i:=4) rfl⟩⟩⟩
 have hz0:∀q:HW (fun wx=>ae [bb,ab,wb] w wx∧wx.cell? (bb,0)=some (.pointer (some ⟨ab,0,none⟩))∧wx.cell? (bb,1)=some (.int .i64 first)∧wx.cell? (bb,4)=some (.int .i64 x)),q.w.cell? (bb,0)=some (.pointer (some ⟨ab,0,none⟩)):=fun q=>q.h.2.1;have hz1:∀q:HW (fun wx=>ae [bb,ab,wb] w wx∧wx.cell? (bb,0)=some (.pointer (some ⟨ab,0,none⟩))∧wx.cell? (bb,1)=some (.int .i64 first)∧wx.cell? (bb,4)=some (.int .i64 x)),q.w.cell? (bb,1)=some (.int .i64 first):=fun q=>q.h.2.2.1;have hz4:∀q:HW (fun wx=>ae [bb,ab,wb] w wx∧wx.cell? (bb,0)=some (.pointer (some ⟨ab,0,none⟩))∧wx.cell? (bb,1)=some (.int .i64 first)∧wx.cell? (bb,4)=some (.int .i64 x)),q.w.cell? (bb,4)=some (.int .i64 x):=fun q=>q.h.2.2.2;have HLK:=aH (fun(W:World) (hf:ae [] w W) (y:Int)=>gU (h.frm hf aS) y);have HA:=aH hA;clear h hA n1 n2;go_enter func322,ntmps322;go_wp2_with fail;refine aG (fun wx=>ae [bb,ab,wb] w wx∧wx.cell? (bb,0)=some (.pointer (some ⟨ab,0,none⟩))∧wx.cell? (bb,1)=some (.int .i64 first)∧wx.cell? (bb,4)=some (.int .i64 x)) ?_;refine aR (fuel:=5) [0,1,2,3,4,5,6,7,8,9] rfl ⟨aF.drew1,H.o.box.drew1.cell (i:=0) rfl,H.o.box.drew1.cell (i:=1) rfl,H.o.box.drew1.cell (i:=4) rfl⟩ ?_;intro K hK;repeat (go_big_quiet_step (fail))
 refine wpQuiet_nil (hK _ ?_);clear hK K;refine aL 10 (fuel:=4) rfl ?_;go_wp2_with fail;refine(HLK.o _ (aF.drew1) _).mono ?_;rintro e w' ⟨rfl,rfl⟩;go_wp2_with fail;refine af ⟨⟨aF.drew1,H.o.box.drew1.cell (i:=0) rfl,H.o.box.drew1.cell (i:=1) rfl,H.o.box.drew1.cell (i:=4) rfl⟩,?_⟩;refine aL 11 (fuel:=3) rfl ?_;go_wp2_with fail;refine(bq (HA.o.frm (S:=[]) ((ae.refl _ w).drew1) aS aS) (gd first x)).mono ?_;rw[HG.o];rintro e w1 ⟨rfl,hA,hF⟩;have HA1:=aH hA;have HF1:=aH (((ae.refl [ab,wb] w).drew1).trans hF);have H1:=aH (H.o.frm HF1.o aV);have k3:=H1.o.box.cell (i:=3) rfl;have k4:=H1.o.box.cell (i:=4) rfl;have k5:=H1.o.box.cell (i:=5) rfl;have kz:=H1.o.box.frozen;clear hA hF;go_wp2_with fail;refine af ⟨⟨HF1.o.mono aS,H1.o.box.cell (i:=0) rfl,H1.o.box.cell (i:=1) rfl,H1.o.box.cell (i:=4) rfl⟩,?_⟩;refine aR (fuel:=1) [12,13] rfl ⟨HF1.o.mono aS,H1.o.box.cell (i:=0) rfl,H1.o.box.cell (i:=1) rfl,H1.o.box.cell (i:=4) rfl⟩ ?_;intro K hK;repeat (go_big_quiet_step (fail))
 refine wpQuiet_nil (hK _ ?_);clear hK K;refine aL 14 (fuel:=0) rfl ?_;go_wp2_with fail;refine af ⟨⟨(HF1.o.mono (S':=[bb,ab,wb]) aS).set ⟨bb,5,none⟩ (.int .i64 v) (.inl aS),(H1.o.box.set 5 (.int .i64 v)).cell (i:=0) rfl,(H1.o.box.set 5 (.int .i64 v)).cell (i:=1) rfl,(H1.o.box.set 5 (.int .i64 v)).cell (i:=4) rfl⟩,?_⟩;refine aN ?_;have HB:=aH ((H1.o).set5 (v));have HA2:=aH ((HA1.o).frm ((ae.refl [bb] _).set ⟨bb,5,none⟩ (.int .i64 v) (.inl aS)) aV aV);have HF2:=aH ((HF1.o.mono (S':=[bb,ab,wb]) aS).set ⟨bb,5,none⟩ (.int .i64 v) (.inl aS));clear k3 k4 k5 kz;generalize(w1.setCell (bb,5) (.int .i64 v))=W2 at*;have k3:=HB.o.box.cell (i:=3) rfl;have k4:=HB.o.box.cell (i:=4) rfl;have k5:=HB.o.box.cell (i:=5) rfl;have kz:=HB.o.box.frozen;clear hne hz0 hz1 hz4;have HR:=aH (And.intro (HB.o.set3 7 aO) (And.intro (HA2.o.frm ((ae.refl [bb] _).set ⟨bb,3,none⟩ (.int .i64 7) (.inl aS)) aV aV) (HF2.o.set ⟨bb,3,none⟩ (.int .i64 7) (.inl aS))));clear HB HA2 HF2 H1 HA1 HF1;go_wp2;go_ret;exact⟨rfl,HR.o.1,HR.o.2.1,HR.o.2.2⟩
theorem nP:(∀{w:World} {bb ab wb first things:Nat} {A:AR} {x n got:Int} (h:bX w bb ab first things ⟨7,x,n,got⟩) (hA:aj w ab wb A) (hne:bb≠ab∧bb≠wb) (hg:n=0),Calls prog 322 #[some bb] w fun e w'=>e= .returned false∧bX w' bb ab first things ⟨8,x,n,got⟩∧aj w' ab wb (A.store first n)∧ae [bb,ab,wb] w w')∧(∀{w:World} {bb ab wb first things:Nat} {A:AR} {x n got:Int} (h:bX w bb ab first things ⟨7,x,n,got⟩) (hA:aj w ab wb A) (hne:bb≠ab∧bb≠wb) (hg:¬n=0),Calls prog 322 #[some bb] w fun e w'=>e= .returned true∧bX w' bb ab first things ⟨0,x,n,x⟩∧aj w' ab wb (A.store first n)∧ae [bb,ab,wb] w w')∧(∀{w:World} {bb ab wb first things:Nat} {A:AR} {x n got:Int} (h:bX w bb ab first things ⟨8,x,n,got⟩) (hA:aj w ab wb A) (hne:bb≠ab∧bb≠wb),Calls prog 322 #[some bb] w fun e w'=>e= .returned true∧bX w' bb ab first things ⟨0,x,n,x⟩∧aj w' ab wb (A.store (first+1) 0)∧ae [bb,ab,wb] w w'):=by
 refine⟨?_,?_,?_⟩;iterate 2
  intro w bb ab wb first things A x n got h hA hne hg;rotate_left
 intro w bb ab wb first things A x n got h hA hne;rotate_left;all_goals
  obtain⟨n1,n2⟩:=hne
 have e0:(n !=0)=false:=by simpa using hg
 clear hg;rotate_left;have e0:(n !=0)=true:=by simpa using hg
 clear hg;rotate_left;rotate_left;all_goals
  have hfb:=h.fb;have c3:=h.box.cell (i:=3) rfl;have c4:=h.box.cell (i:=4) rfl;have c5:=h.box.cell (i:=5) rfl;have c1:=h.box.cell (i:=1) rfl;have H:=aH h;have HN:=aH (And.intro n1 n2);have hne:=aW [ab,wb] w;have hz0:∀q:HW (fun wx=>ae [ab,wb] w wx),q.w.cell? (bb,0)=some (.pointer (some ⟨ab,0,none⟩)):=fun q=>(h.box.frm q.h aQ).cell (i:=0) rfl;have hz1:∀q:HW (fun wx=>ae [ab,wb] w wx),q.w.cell? (bb,1)=some (.int .i64 first):=fun q=>(h.box.frm q.h aQ).cell (i:=1) rfl;have hz4:∀q:HW (fun wx=>ae [ab,wb] w wx),q.w.cell? (bb,4)=some (.int .i64 x):=fun q=>(h.box.frm q.h aQ).cell (i:=4) rfl;have hz5:∀q:HW (fun wx=>ae [ab,wb] w wx),q.w.cell? (bb,5)=some (.int .i64 n):=fun q=>(h.box.frm q.h aQ).cell (i:=5) rfl;have HLK:=aH (fun(W:World) (hf:ae [] w W) (y:Int)=>gU (h.frm hf aS) y);have HA:=aH hA;clear h hA n1 n2;go_enter func322,ntmps322;go_wp2_with fail;refine aG (fun wx=>ae [ab,wb] w wx) ?_
 iterate 2
  refine aR (fuel:=1) [0,1,2,3,4,5,6,7,8,9,10,11] rfl aF.drew1 ?_;rotate_left
 refine aR (fuel:=1) [0,1,2,3,4,5,6,7,8] rfl aF.drew1 ?_;rotate_left;all_goals
  intro K hK;repeat (go_big_quiet_step (fail))
  refine wpQuiet_nil (hK _ ?_);clear hK K
 iterate 2
  refine aL 12 (fuel:=0) rfl ?_;rotate_left
 refine aL 9 (fuel:=0) rfl ?_;rotate_left;all_goals
  go_wp2_with fail
 iterate 2
  refine(au (HA.o.frm (S:=[]) ((ae.refl _ w).drew1) aS aS) (first) (n)).mono ?_;rintro e w1 ⟨rfl,hA,hF⟩;have HA1:=aH hA;have HF1:=aH (((ae.refl [ab,wb] w).drew1).trans hF);have H1:=aH (H.o.frm HF1.o aV);have k3:=H1.o.box.cell (i:=3) rfl;have k4:=H1.o.box.cell (i:=4) rfl;have k5:=H1.o.box.cell (i:=5) rfl;have kz:=H1.o.box.frozen;clear hA hF;rotate_left
 refine(au (HA.o.frm (S:=[]) ((ae.refl _ w).drew1) aS aS) (first+1) (0)).mono ?_;rintro e w1 ⟨rfl,hA,hF⟩;have HA1:=aH hA;have HF1:=aH (((ae.refl [ab,wb] w).drew1).trans hF);have H1:=aH (H.o.frm HF1.o aV);have k3:=H1.o.box.cell (i:=3) rfl;have k4:=H1.o.box.cell (i:=4) rfl;have k5:=H1.o.box.cell (i:=5) rfl;have kz:=H1.o.box.frozen;clear hA hF;rotate_left;all_goals
  go_wp2_with fail;refine af ⟨HF1.o,?_⟩;refine aN ?_;have HB:=aH (H1.o);have HA2:=aH (HA1.o);have HF2:=aH (HF1.o.mono (S':=[bb,ab,wb]) aS);clear k3 k4 k5 kz;have k3:=HB.o.box.cell (i:=3) rfl;have k4:=HB.o.box.cell (i:=4) rfl;have k5:=HB.o.box.cell (i:=5) rfl;have kz:=HB.o.box.frozen;clear hne hz0 hz1 hz4 hz5
 have HR:=aH (And.intro (HB.o.set3 8 aO) (And.intro (HA2.o.frm ((ae.refl [bb] _).set ⟨bb,3,none⟩ (.int .i64 8) (.inl aS)) aV aV) (HF2.o.set ⟨bb,3,none⟩ (.int .i64 8) (.inl aS))));rotate_left;iterate 2
  have k6:=HB.o.box.cell (i:=6) rfl;have HB6:=aH (HB.o.set6 x);have HA6:=aH (HA2.o.frm ((ae.refl [bb] _).set ⟨bb,6,none⟩ (.int .i64 x) (.inl aS)) aV aV);have HF6:=aH (HF2.o.set ⟨bb,6,none⟩ (.int .i64 x) (.inl aS));rotate_left
 all_goals
  clear HB HA2 HF2 H1 HA1 HF1
 rotate_left;iterate 2
  focus
   go_wp2_with fail;refine(ob HB6.o).mono ?_;rintro e w3 ⟨rfl,hB,hF⟩;have HB3:=aH hB;have HF3:=aH (HF6.o.trans (hF.mono aS));have HA3:=aH (HA6.o.frm hF aV aV);clear hB hF
  rotate_left
 all_goals
  go_wp2;go_ret
 ·exact⟨rfl,HR.o.1,HR.o.2.1,HR.o.2.2⟩
 iterate 2
  exact⟨rfl,HB3.o,HA3.o,HF3.o⟩
def Bm:= @And.left _ _ nP
def CO:= @And.left _ _ (@And.right _ _ nP)
def EE:= @And.right _ _ (@And.right _ _ nP)
end
def gi (first:Nat) (A:AR) (B:BK):Bool:=decide (B.step=4)||decide (B.step=8)||(decide (B.step=5)&&decide (A.get first=0))||(decide (B.step=7)&&decide (¬B.n=0))
def eh (first:Nat) (A:AR) (B:BK):BK:=
 if B.step=1 then⟨2,B.x,B.n,B.got⟩ else if B.step=2 then⟨3,B.x,A.get (first+1),B.got⟩ else if B.step=3 then⟨4,B.x,B.n,B.got⟩ else if B.step=4 then⟨0,B.x,B.n,B.got⟩
 else if B.step=5 then(if A.get first=0 then⟨0,0,B.n,0⟩ else⟨6,A.get first,B.n,B.got⟩) else if B.step=6 then⟨7,B.x,A.get (gd first B.x),B.got⟩
 else if B.step=7 then(if B.n=0 then⟨8,B.x,B.n,B.got⟩ else⟨0,B.x,B.n,B.x⟩) else if B.step=8 then⟨0,B.x,B.n,B.x⟩ else B
def gy (first:Nat) (A:AR) (B:BK):AR:=
 if B.step=1 then A.store (gd first B.x) 0 else if B.step=2 then A.load (first+1) else if B.step=3 then(if B.n=0 then A.store first B.x else A.store (gd first B.n) B.x) else if B.step=4 then A.store (first+1) B.x
 else if B.step=5 then A.load first else if B.step=6 then A.load (gd first B.x) else if B.step=7 then A.store first B.n else if B.step=8 then A.store (first+1) 0 else A
section
variable{w:World} {bb ab wb first things:Nat} {A A':AR} {B B':BK} {R:Bool}
theorem gT (h:bX w bb ab first things B) (hs:B.step=1∨B.step=2∨B.step=3∨B.step=4)
 (hp:Calls prog 321 #[some bb] w fun e w'=>e= .returned R∧bX w' bb ab first things B'∧aj w' ab wb A'∧ae [bb,ab,wb] w w'):
 Calls prog 316 #[some bb] w fun e w'=>e= .returned R∧bX w' bb ab first things B'∧aj w' ab wb A'∧ae [bb,ab,wb] w w':=by
 have c3:=h.box.cell (i:=3) rfl;have HB:=aH (nC h);have HP:=aH hp;clear h hp;obtain⟨st,x,n,got⟩:=B;simp only at hs c3 HB;rcases hs with rfl|rfl|rfl|rfl;all_goals
  go_enter func316,ntmps316;go_wp2_with fail;refine HB.o.mono ?_;rintro e w' ⟨rfl,rfl⟩;go_wp2_with fail;refine HP.o.mono ?_;rintro e w' ⟨rfl,hB,hA,hF⟩;have HR:=aH (And.intro hB (And.intro hA hF));clear hB hA hF;go_wp2;go_ret;exact⟨rfl,HR.o.1,HR.o.2.1,HR.o.2.2⟩
theorem eM (h:bX w bb ab first things B) (hs:B.step=5∨B.step=6∨B.step=7∨B.step=8)
 (hp:Calls prog 322 #[some bb] w fun e w'=>e= .returned R∧bX w' bb ab first things B'∧aj w' ab wb A'∧ae [bb,ab,wb] w w'):
 Calls prog 316 #[some bb] w fun e w'=>e= .returned R∧bX w' bb ab first things B'∧aj w' ab wb A'∧ae [bb,ab,wb] w w':=by
 have c3:=h.box.cell (i:=3) rfl;have HB:=aH (nC h);have HP:=aH hp;clear h hp;obtain⟨st,x,n,got⟩:=B;simp only at hs c3 HB;rcases hs with rfl|rfl|rfl|rfl;all_goals
  go_enter func316,ntmps316;go_wp2_with fail;refine HB.o.mono ?_;rintro e w' ⟨rfl,rfl⟩;go_wp2_with fail;refine HP.o.mono ?_;rintro e w' ⟨rfl,hB,hA,hF⟩;have HR:=aH (And.intro hB (And.intro hA hF));clear hB hA hF;go_wp2;go_ret;exact⟨rfl,HR.o.1,HR.o.2.1,HR.o.2.2⟩
theorem sA {bb:Nat} {w:World} (c3:w.cell? (bb,3)=some (.int .i64 0)):Calls prog 316 #[some bb] w fun e w'=>e= .returned false∧w=w':=by
 have HB:Hy (Calls prog 320 #[some bb] w fun e w'=>e= .returned false∧w=w'):=aH (by
  go_enter func320,ntmps320;go_wp2;go_ret;exact⟨rfl,rfl⟩)
 clear c3;go_enter func316,ntmps316;go_wp2_with fail;refine HB.o.mono ?_;rintro e w' ⟨rfl,rfl⟩;go_wp2;go_ret;exact⟨rfl,rfl⟩
theorem lX (h:bX w bb ab first things B) (hA:aj w ab wb A) (hne:bb≠ab∧bb≠wb):Calls prog 316 #[some bb] w fun e w'=>e= .returned (.bool (gi first A B))∧
 bX w' bb ab first things (eh first A B)∧aj w' ab wb (gy first A B)∧ae [bb,ab,wb] w w':=by
 obtain⟨st,x,n,got⟩:=B;have hst:=h.st;simp only at hst;unfold gi eh gy;simp only;rcases(show st=0∨st=1∨st=2∨st=3∨st=4∨st=5∨st=6∨st=7∨st=8 by omega) with rfl|rfl|rfl|rfl|rfl|rfl|rfl|rfl|rfl
 ·exact(sA (h.box.cell (i:=3) rfl)).mono fun e w' ⟨h1,h2⟩=>by subst h2;exact⟨by rw[h1];exact bH aS,by simpa using h,by simpa using hA,aF⟩
 ·exact(gT h (.inl rfl) (Ho h hA hne)).mono fun e w' ⟨h1,h2,h3,h4⟩=>⟨by rw[h1];exact bH aS,by simpa using h2,by simpa using h3,h4⟩
 ·exact(gT h (.inr (.inl rfl)) (Jo h hA hne)).mono fun e w' ⟨h1,h2,h3,h4⟩=>⟨by rw[h1];exact bH aS,by simpa using h2,by simpa using h3,h4⟩
 ·by_cases hn:n=0
  ·exact(gT h (.inr (.inr (.inl rfl))) (Ft h hA hne hn)).mono fun e w' ⟨h1,h2,h3,h4⟩=>⟨by rw[h1];exact bH aS,by simpa using h2,by simpa[hn] using h3,h4⟩
  ·exact(gT h (.inr (.inr (.inl rfl))) (Gc h hA hne hn)).mono fun e w' ⟨h1,h2,h3,h4⟩=>⟨by rw[h1];exact bH aS,by simpa using h2,by simpa[hn] using h3,h4⟩
 ·exact(gT h (.inr (.inr (.inr rfl))) (Jb h hA hne)).mono fun e w' ⟨h1,h2,h3,h4⟩=>⟨by rw[h1];exact bH aS,by simpa using h2,by simpa using h3,h4⟩
 ·by_cases hg:A.get first=0
  ·exact(eM h (.inl rfl) (Cd h hA hne hg)).mono fun e w' ⟨h1,h2,h3,h4⟩=>⟨by rw[h1];exact bH (by simp[hg]),by simpa[hg] using h2,by simpa using h3,h4⟩
  ·exact(eM h (.inl rfl) (Bt h hA hne hg)).mono fun e w' ⟨h1,h2,h3,h4⟩=>⟨by rw[h1];exact bH (by simp[hg]),by simpa[hg] using h2,by simpa using h3,h4⟩
 ·exact(eM h (.inr (.inl rfl)) (EM h hA hne)).mono fun e w' ⟨h1,h2,h3,h4⟩=>⟨by rw[h1];exact bH aS,by simpa using h2,by simpa using h3,h4⟩
 ·by_cases hn:n=0
  ·exact(eM h (.inr (.inr (.inl rfl))) (Bm h hA hne hn)).mono fun e w' ⟨h1,h2,h3,h4⟩=>⟨by rw[h1];exact bH (by simp[hn]),by simpa[hn] using h2,by simpa using h3,h4⟩
  ·exact(eM h (.inr (.inr (.inl rfl))) (CO h hA hne hn)).mono fun e w' ⟨h1,h2,h3,h4⟩=>⟨by rw[h1];exact bH (by simp[hn]),by simpa[hn] using h2,by simpa using h3,h4⟩
 ·exact(eM h (.inr (.inr (.inr rfl))) (EE h hA hne)).mono fun e w' ⟨h1,h2,h3,h4⟩=>⟨by rw[h1];exact bH aS,by simpa using h2,by simpa using h3,h4⟩
theorem pP {bb things:Nat} {w:World} {st y x:Int} (c2:w.cell? (bb,2)=some (.int .i64 things)) (c3:w.cell? (bb,3)=some (.int .i64 st)) (hno:¬(st=0∧1≤x∧x≤things)):
 Calls prog 319 #[some bb,y,x] w fun e w'=>e= .returned false∧w=w':=by
 have HB:Hy (Calls prog 320 #[some bb] w fun e w'=>e= .returned (.bool (st !=0))∧w=w'):=aH (by
  clear hno;go_enter func320,ntmps320;go_wp2;go_ret;exact⟨rfl,rfl⟩)
 by_cases h0:st=0
 ·have e0:(st !=0)=false:=by simp[h0]
  by_cases h1:x<1
  ·have d1:decide (x<1)=true:=by simpa using h1
   rw[e0] at HB;clear hno c3 h0 e0;go_enter func319,ntmps319;go_wp2_with fail;refine HB.o.mono ?_;rintro e w' ⟨rfl,rfl⟩;go_wp2;go_ret;exact⟨rfl,rfl⟩
  ·have d1:decide (x<1)=false:=by simpa using h1
   have d2:decide ((things:Int)<x)=true:=by simp;omega
   rw[e0] at HB;clear hno c3 h0 e0;go_enter func319,ntmps319;go_wp2_with fail;refine HB.o.mono ?_;rintro e w' ⟨rfl,rfl⟩;go_wp2;go_ret;exact⟨rfl,rfl⟩
 ·have e0:(st !=0)=true:=by simpa using h0
  rw[e0] at HB;clear hno c3 h0 e0;go_enter func319,ntmps319;go_wp2_with fail;refine HB.o.mono ?_;rintro e w' ⟨rfl,rfl⟩;go_wp2;go_ret;exact⟨rfl,rfl⟩
theorem oO {x n got y z:Int} (h:bX w bb ab first things ⟨0,x,n,got⟩) (hz1:1≤z) (hz2:z≤things) (hy:0≤y∧y≤8):
 Calls prog 319 #[some bb,y,z] w fun e w'=>e= .returned true∧bX w' bb ab first things ⟨y,z,n,got⟩∧ae [bb] w w':=by
 have HB:=aH (nC h);have c2:=h.box.cell (i:=2) rfl;have c3:=h.box.cell (i:=3) rfl;have c4:=h.box.cell (i:=4) rfl;have hz:=h.box.frozen;have d1:decide (z<1)=false:=by simp;omega
 have d2:decide ((things:Int)<z)=false:=by simp;omega
 have H:=aH ((h.set3 y hy).set4 z);have H43:=aH ((h.set4 z).set3 y hy);have hk:=(h.set3 y hy)
 have k4:=hk.box.cell (i:=4) rfl;have kz:=hk.box.frozen;clear h hk;go_enter func319,ntmps319;go_wp2_with fail;refine HB.o.mono ?_;rintro e w' ⟨rfl,rfl⟩;go_wp2;go_ret;exact⟨rfl,H.o,((ae.refl [bb] w).set ⟨bb,3,none⟩ _ (.inl aS)).set ⟨bb,4,none⟩ _ (.inl aS)⟩
end
def qq (things:Nat) (B:BK) (x:Int):Bool:=decide (B.step=0∧1≤x∧x≤(things:Int))
def rq (things:Nat) (B:BK) (x:Int):BK:=if qq things B x then⟨1,x,B.n,B.got⟩ else B
def na (B:BK):Bool:=decide (B.step=0)
def lN (B:BK):BK:=if na B then⟨5,1,B.n,B.got⟩ else B
section
variable{w:World} {bb ab wb first things:Nat} {A:AR} {B:BK}
theorem Az (h:bX w bb ab first things B) (x:Int):Calls prog 318 #[some bb,x] w fun e w'=>e= .returned (.bool (qq things B x))∧bX w' bb ab first things (rq things B x)∧ae [bb] w w':=by
 have key:Calls prog 319 #[some bb,(1:Int),x] w fun e w'=>e= .returned (.bool (qq things B x))∧bX w' bb ab first things (rq things B x)∧ae [bb] w w':=by
  unfold rq qq;by_cases hc:B.step=0∧1≤x∧x≤(things:Int)
  ·obtain⟨st,z,n,got⟩:=B;obtain⟨h0,h1,h2⟩:=hc;simp only at h0;subst h0;exact(oO h h1 h2 aO).mono fun e w' ⟨a,b,c⟩=>⟨by rw[a];exact bH (by simp[h1,h2]),by simpa[h1,h2] using b,c⟩
  ·exact(pP (h.box.cell (i:=2) rfl) (h.box.cell (i:=3) rfl) hc).mono fun e w' ⟨a,b⟩=>by subst b;exact⟨by rw[a,decide_eq_false hc],by rw[decide_eq_false hc];exact h,aF⟩
 have HK:=aH key;clear h key;go_enter func318,ntmps318;go_wp2_with fail;refine HK.o.mono ?_;rintro e w' ⟨rfl,hB,hF⟩;have HR:=aH (And.intro hB hF);clear hB hF;go_wp2;go_ret;exact⟨rfl,HR.o.1,HR.o.2⟩
theorem pz (h:bX w bb ab first things B):Calls prog 315 #[some bb] w fun e w'=>e= .returned (.bool (na B))∧bX w' bb ab first things (lN B)∧ae [bb] w w':=by
 have t1:=h.t1;have key:Calls prog 319 #[some bb,(5:Int),(1:Int)] w fun e w'=>e= .returned (.bool (na B))∧bX w' bb ab first things (lN B)∧ae [bb] w w':=by
  unfold lN na;by_cases hc:B.step=0
  ·obtain⟨st,z,n,got⟩:=B;simp only at hc;subst hc;exact(oO h aO aO aO).mono fun e w' ⟨a,b,c⟩=>⟨by rw[a];exact bH aS,by simpa using b,c⟩
  ·exact(pP (h.box.cell (i:=2) rfl) (h.box.cell (i:=3) rfl) (fun k=>hc k.1)).mono fun e w' ⟨a,b⟩=>by subst b;exact⟨by rw[a,decide_eq_false hc],by rw[decide_eq_false hc];exact h,aF⟩
 have HK:=aH key;clear h key;go_enter func315,ntmps315;go_wp2_with fail;refine HK.o.mono ?_;rintro e w' ⟨rfl,hB,hF⟩;have HR:=aH (And.intro hB hF);clear hB hF;go_wp2;go_ret;exact⟨rfl,HR.o.1,HR.o.2⟩
theorem C8 (hA:aj w ab wb A) (n:Nat) (hn1:1≤n) (hn:n≤32) (ht:A.takeE (2+n)=0):
 Calls prog 97 #[some ab,n] w fun e w'=>∃bb,e= .returned (.tuple #[some bb,(0:Int)])∧w.heap.size≤bb∧
  bX w' bb ab (A.taken+1) n ⟨0,0,0,0⟩∧aj w' ab wb (A.take (2+n))∧ae [ab,wb] w w':=by
 have d1:decide ((n:Int)<1)=false:=by simp;omega
 have d2:decide ((32:Int)<n)=false:=by simp;omega
 have hT:=cY hA (2+n);have hn':A.takeN (2+n)=(A.taken:Int)+1:=by unfold AR.takeN;rw[if_pos ht]
 rw[ht,hn'] at hT;have HT:=aH hT;have hab:=hA.box.lt;have hwb:=hA.row.lt;have hroom:=hA.room;have hle:=hA.le;have htk:A.taken+1≤4096:=by
  unfold AR.takeE at ht;rw[if_neg aO] at ht;by_cases hb:(A.ws.length:Int) - (A.taken:Int)<2+n
  ·rw[if_pos hb] at ht;omega
  ·omega
 clear hA hT hn' ht;go_enter func97,ntmps97;go_wp2_with fail;refine HT.o.mono ?_;rintro e w1 ⟨rfl,hA',hF⟩;have hsz:=hF.size;have HF:=aH hF;have HA:=aH hA';clear hA' hF;go_wp2;go_ret2;have g2:=am.new w1 #[some ab,((A.taken:Int)+1:Int),n,(0:Int),(0:Int),(0:Int),(0:Int)] 254;refine⟨w1.heap.size,rfl,hsz,?_,?_,HF.o.alloc _⟩
 ·exact{box:=by simpa using g2,t1:=hn1,t32:=hn,fb:=htk,st:=by simp}
 ·exact HA.o.frm (S:=[]) (aF.alloc _) aS aS
end
end Go.Proofs.YteijjhahgabalaaGreat
