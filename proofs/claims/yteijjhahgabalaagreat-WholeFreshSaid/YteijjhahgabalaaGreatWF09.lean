/- The contracts of package turn. -/
import Derived.Deep.RegionHeld3
import Derived.Deep.RegionWith
import Derived.Deep.DeepCutAuto
import Derived.Deep.CutBlock
import Derived.Test.YteijjhahgabalaaGreatWF06
import Derived.Test.YteijjhahgabalaaGreatWF08
import Derived.Test.YteijjhahgabalaaGreatWF04
set_option maxRecDepth 100000
set_option maxHeartbeats 8000000
set_option linter.all false
namespace Go.Proofs.YteijjhahgabalaaGreat
open Go.RowKit
open Tryz
def dn(d:Nat->Nat):List Value:=(List.range 32).map λj=>Value.int .i64 (d j)
theorem Da(d:Nat->Nat){j:Nat}(hj:j<32):(dn d)[j]? =some (.int .i64 (d j)):=by simp[dn,hj]
def sP(d:Nat->Nat)(k:Nat):Nat->Nat:=λj=>if j=k then d j+1 else d j
theorem Nk(d:Nat->Nat)(k:Nat):(dn d).set k (.int .i64 ((d k:Int)+1))=dn (sP d k):=by
 apply y6;intro j;rw[s7];by_cases h:k=j
 ·subst h;by_cases a:k<32
  ·simp[dn,sP,a]
  ·simp[dn,a]
 ·rw[ac h];have b:¬j=k:=λe=>h e.symm;by_cases a:j<32
  ·simp[dn,sP,a,b]
  ·simp[dn,a]
structure nK(w:World)(tb ab first slots:Nat)(d:Nat->Nat)(m:Nat):Prop where
 box:aq w tb (.pointer (some ⟨ab,0,none⟩):: .int .i64 first:: .int .i64 slots::dn d) 250
 SI:1<=first
 SJ:first<=5000
 Tp:slots<=32
 bd:∀j,d j<=m
theorem nK.Rr{w w':World}{tb ab first slots m:Nat}{d:Nat->Nat}(h:nK w tb ab first slots d m){S:List Nat}(a:af S w w')(h1:tb∉S):nK w' tb ab first slots d m:=
 {h with box:=h.box.Rr a h1}
def eN(slots:Nat)(d:Nat->Nat)(i:Int):Int:=if fk slots i then pO (i+1) ((d i.toNat:Int)+1) else 0
def AR.SQ(A:AR)(first slots:Nat)(i:Int):AR:=if fk slots i then A.add ((first:Int)+i) 1 else A
def Ge(slots:Nat)(d:Nat->Nat)(i:Int):Nat->Nat:=if fk slots i then sP d i.toNat else d
def jJ(slots:Nat)(x:Int):Bool:= !nQ x&&fk slots (jS x - 1)
def AR.S0(A:AR)(first slots:Nat)(x:Int):Bool:=jJ slots x&&decide (yb x<=A.get ((first:Int)+(jS x - 1)))
def AR.Sl(A:AR)(first slots:Nat)(x:Int):AR:=if jJ slots x then A.load ((first:Int)+(jS x - 1)) else A
section
variable{w:World}{tb ab wb first slots m:Nat}{d:Nat->Nat}{A:AR}
theorem yU(h:nK w tb ab first slots d m):Calls prog 275 #[some tb] w λe w'=>e= .returned slots/\w=w':=by
 have c2:=h.box.cell (i:=2) rfl;clear h;go_enter func275,ntmps275;go_wp2;go_ret;exact⟨rfl,rfl⟩
theorem oo(h:nK w tb ab first slots d m)(i:Int):Calls prog 270 #[some tb,i] w λe w'=>e= .returned (.bool (fk slots i))/\w=w':=by
 have c:=aH (yU h);clear h;by_cases a:i<0
 ·have b:fk slots i=false:=by unfold fk;simp;omega
  rw[b];have d1:decide (i<0)=true:=by simpa using a
  have d2:decide (0<=i)=false:=by simpa using a
  clear b;go_enter func270,ntmps270;go_wp2;go_ret;exact⟨rfl,rfl⟩
 ·have d1:decide (i<0)=false:=by simpa using a
  have d2:decide (0<=i)=true:=by simp;omega
  have b:fk slots i=decide (i<(slots:Int)):=by unfold fk;simp;omega
  rw[b];clear b;go_enter func270,ntmps270;go_wp2_with fail;refine gF c.o ?_;rintro w' rfl;go_wp2;go_ret;exact⟨rfl,rfl⟩
theorem Bz(h:nK w tb ab first slots d m)(hm:m<=1000000)(i:Int):Calls prog 267 #[some tb,i] w λe w'=>e= .returned (eN slots d i:Int)/\∃n,w'=w.drewN n:=by
 have g:=aH (oo h i);cases a:fk slots i with
 |false=>
  have f:eN slots d i=0:=by unfold eN;rw[a];rfl
  rw[f];rw[a] at g;clear h f a;go_enter func267,ntmps267;go_wp2_with fail;refine gF g.o ?_;rintro w' rfl;go_wp2;go_ret;exact⟨rfl,0,rfl⟩
 |true=>
  have f:eN slots d i=pO (i+1) ((d i.toNat:Int)+1):=by unfold eN;rw[a];rfl
  rw[f];rw[a] at g;have b:0<=i/\i<(slots:Int):=by unfold fk at a;simpa using a
  have hs:=h.Tp;obtain⟨j,rfl⟩:=ix b.1;have hj:j<32:=by omega
  have c:=h.box.cell (i:=3+j) (v:=.int .i64 (d j)) (by rw[show 3+j=j+1+1+1 from by omega];simpa using Da d hj);have k:=h.bd j;rw[show((j:Int).toNat)=j from by omega];generalize d j=q at*;have l1:(j:Int)<32:=by omega
  clear h f a b hs;go_enter func267,ntmps267;go_wp2_with fail;refine gF g.o ?_;rintro w' rfl;go_wp2_with fail;refine gF (Cc _ _ _) ?_;rintro w' ⟨n,rfl⟩;go_wp2;go_ret;exact⟨rfl,_,rfl⟩
theorem Bx(h:nK w tb ab first slots d m)(u:ax w ab wb A)(hm:m<=1000000)(I:tb≠ab/\tb≠wb)(i:Int):Calls prog 269 #[some tb,i] w λe w'=>e= .returned (.tuple #[])/\
 ax w' ab wb (A.SQ first slots i)/\nK w' tb ab first slots (Ge slots d i) (m+1)/\af [tb,ab,wb] w w':=by
 have t:=aH (oo h i);cases f:fk slots i with
 |false=>
  have p:A.SQ first slots i=A:=by unfold AR.SQ;rw[f];rfl
  have a:Ge slots d i=d:=by unfold Ge;rw[f];rfl
  rw[p,a];rw[f] at t;have H:=aH h;have s:=aH u;clear h u p a f;go_enter func269,ntmps269;go_wp2_with fail;refine gF t.o ?_;rintro w' rfl;go_wp2;go_end0;exact⟨rfl,s.o,{H.o with bd:=λj=>Nat.le_succ_of_le (H.o.bd j)},aF⟩
 |true=>
  have p:A.SQ first slots i=A.add ((first:Int)+i) 1:=by unfold AR.SQ;rw[f];rfl
  have a:Ge slots d i=sP d i.toNat:=by unfold Ge;rw[f];rfl
  rw[p,a];rw[f] at t;have o:0<=i/\i<(slots:Int):=by unfold fk at f;simpa using f
  have hs:=h.Tp;have f1:=h.SI;have f2:=h.SJ;obtain⟨j,rfl⟩:=ix o.1;have hj:j<32:=by omega
  have c0:=h.box.cell (i:=0) rfl;have c1:=h.box.cell (i:=1) rfl;have c:=h.box.cell (i:=3+j) (v:=.int .i64 (d j)) (by rw[show 3+j=j+1+1+1 from by omega];simpa using Da d hj);have J:=h.bd j;have C:=h.box.frozen;have b:=λn=>(h.box.drew n).set (3+j) (.int .i64 ((d j:Int)+1));rw[show((j:Int).toNat)=j from by omega];have G:(Value.pointer (some ⟨ab,0,none⟩):: .int .i64 first:: .int .i64 slots::dn d).set (3+j) (.int .i64 ((d j:Int)+1))= .pointer (some ⟨ab,0,none⟩):: .int .i64 first:: .int .i64 slots::dn (sP d j):=by
   rw[show 3+j=j+1+1+1 from by omega,Ja,Ja,Ja,Nk]
  rw[G] at b;have E:Hy (∀n,nK ((w.drewN n).setCell (tb,3+j) (.int .i64 ((d j:Int)+1))) tb ab first slots (sP d j) (m+1)):=aH λn=>{h with box:=b n,bd:=λi=>by have:=h.bd i;unfold sP;split<;>omega}
  have s:=aH u;clear b G h u;generalize d j=q at*;have l1:(j:Int)<32:=by omega
  clear p f o hs a;go_enter func269,ntmps269;go_wp2_with fail;refine gF t.o ?_;rintro w' rfl;go_wp2_with fail;refine ig 10 aK aK ?_;simp only[I8,List.take_zero,FG,List.drop_zero];repeat (quiet_step (fail))
  refine xi ?_;rintro _ ⟨nq,rfl⟩;go_wp2_with fail;have g:af [tb] w ((w.drewN nq).setCell (tb,3+j) (.int .i64 ((q:Int)+1))):=(aF.drew nq).set ⟨tb,3+j,none⟩ _ (.inl aS);have x:nK ((w.drewN nq).setCell (tb,3+j) (.int .i64 ((q:Int)+1))) tb ab first slots (sP d j) (m+1):=E.o nq;have K:=x.box.cell (i:=0) rfl;have k1:=x.box.cell (i:=1) rfl;generalize(w.drewN nq).setCell (tb,3+j) (.int .i64 ((q:Int)+1))=w1 at*;have l:=s.o.Rr g aQ aQ;have z:=aH g;have B:=aH x;have HAdd:=aH (λn=>qq (l.Rr (S:=[]) (aF.drew n) aS aS) ((first:Int)+j) 1);clear g x l s E c0 c1 c C;refine ig 10 aK aK ?_;simp only[I8,List.take_zero,FG,List.drop_zero];repeat (quiet_step (fail))
  refine xi ?_;rintro _ ⟨r,rfl⟩;go_wp2_with fail;refine gF (HAdd.o r) ?_;rintro w' ⟨k,F⟩;have y:=aH k;have D:=aH (((af.refl _ w1).drew r).trans F);clear k F;go_wp2;go_end0;exact⟨rfl,y.o,B.o.Rr D.o aQ,(z.o.mono aS).trans (D.o.mono aS)⟩
theorem IM(h:nK w tb ab first slots d m)(j:ax w ab wb A)(J:tb≠ab/\tb≠wb)(x:Int)(E:jp x):Calls prog 268 #[some tb,x] w λe w'=>e= .returned (.bool (A.S0 first slots x))/\
 ax w' ab wb (A.Sl first slots x)/\af [ab,wb] w w':=by
 have f1:=h.SI;have f2:=h.SJ;have s2:=h.Tp;have I:=(show 0<=jS x/\jS x<65536 from by unfold jS;omega)
 cases l:nQ x with
 |true=>
  have f:A.S0 first slots x=false:=by unfold AR.S0 jJ;rw[l];rfl
  have g:A.Sl first slots x=A:=by unfold AR.Sl jJ;rw[l];rfl
  rw[f,g];have p:=aH j;clear j h f g;go_enter func268,ntmps268;go_wp2_with fail;refine gF (oG _ _) ?_;rintro w' ⟨n,rfl⟩;go_wp2_with fail;have c:=aH ((af.refl [] w).drew n);generalize w.drewN n=W at*;have s:=aH (λk=>mV x E (W.drewN k));rw[l] at s
  go_quiet ((go_at_call 273;exact Calls.quiet_of (s.o _)))
  go_wp2;go_ret;exact⟨rfl,p.o.Rr (S:=[]) (c.o.drew _) aS aS,(c.o.drew _).mono aS⟩
 |false=>
  have H:=aH h;cases b:fk slots (jS x - 1) with
  |false=>
   have f:A.S0 first slots x=false:=by unfold AR.S0 jJ;rw[l,b];rfl
   have g:A.Sl first slots x=A:=by unfold AR.Sl jJ;rw[l,b];rfl
   rw[f,g];have p:=aH j;clear j h f g;go_enter func268,ntmps268;go_wp2_with fail;refine gF (oG _ _) ?_;rintro w' ⟨n,rfl⟩;go_wp2_with fail;have o:=(af.refl [] w).drew n;generalize w.drewN n=W at*;have s:=aH (λk=>mV x E (W.drewN k));rw[l] at s;have B:=aH (λk=>(oo (H.o.Rr (S:=[]) (o.drew k) aS) (jS x - 1)).mono (λe w' h=>(show e= .returned (.bool (fk slots (jS x - 1)))/\∃n,w'=(W.drewN k).drewN n from⟨h.1,0,h.2.symm⟩)));rw[b] at B;have c:=aH o;clear o
   go_quiet ((first|(go_at_call 273;exact Calls.quiet_of (s.o _))|(go_at_call 270;exact Calls.quiet_of (B.o _))))
   go_wp2;go_ret;exact⟨rfl,p.o.Rr (S:=[]) (c.o.drew _) aS aS,(c.o.drew _).mono aS⟩
  |true=>
   have f:A.S0 first slots x=decide (yb x<=A.get ((first:Int)+(jS x - 1))):=by unfold AR.S0 jJ;rw[l,b];rfl
   have g:A.Sl first slots x=A.load ((first:Int)+(jS x - 1)):=by unfold AR.Sl jJ;rw[l,b];rfl
   rw[f,g];have v:∀q,af [ab,wb] w q->q.cell? (tb,0)=some (.pointer (some ⟨ab,0,none⟩))/\q.cell? (tb,1)=some (.int .i64 first):=λq o=>⟨(h.box.Rr o aQ).cell (i:=0) rfl,(h.box.Rr o aQ).cell (i:=1) rfl⟩
   have F:=aH v;have p:=aH j;obtain⟨i,hi⟩:∃i,jS x=i+1:=⟨jS x - 1,by omega⟩
   have y:jS x - 1=i:=by omega
   rw[y] at b⊢;have M:0<=i:=by unfold fk at b;simp at b;omega
   have N:i<=100:=by unfold fk at b;simp at b;omega
   have z:IntKind.i64.wrap ((first:Int)+i)=(first:Int)+i:=IntWalk.i64_in _ aO;have D:=aH z;clear j h f g v I z;go_enter func268,ntmps268;go_wp2_with fail;refine(oG _ _).mono ?_;rw[hi];rintro e w' ⟨rfl,n,rfl⟩;go_wp2_with fail;have o:=(af.refl [ab,wb] w).drew n;have j:=p.o.Rr (S:=[]) ((af.refl _ w).drew n) aS aS;have G:=H.o.Rr (S:=[]) ((af.refl _ w).drew n) aS;generalize w.drewN n=W at*;have c:=aH o;have p:=aH j;have B:=aH G;clear o j G H
   go_region_held3 (λq=>q.cell? (tb,0)=some (.pointer (some ⟨ab,0,none⟩))/\q.cell? (tb,1)=some (.int .i64 first)) (first|exact F.o _ (by repeat (first|exact r.o|exact c.o|apply af.Rs|apply af.drew))|exact F.o _ (by repeat (first|exact c.o|apply af.Rs|apply af.drew)))
    (first
     |(go_at_call 273;refine(mV x E _).mono ?_;rw[l];rintro f w1 ⟨rfl,n1,rfl⟩)
     |(go_at_call 270;refine(oo (B.o.Rr (S:=[]) aD aS) i).mono ?_;rw[b];rintro g w2 ⟨rfl,rfl⟩)
     |(go_at_call 106;rw[D.o];refine(fh (p.o.Rr (S:=[]) aD aS aS) ((first:Int)+i)).mono ?_;rintro K w3 ⟨rfl,t,u⟩;have C:=aH t;have r:=aH (af.trans (S:=[ab,wb]) (a:=w) (by repeat (first|exact c.o|apply af.Rs|apply af.drew)) u);clear t u)
     |(go_at_call 274;refine(xI x _).mono ?_;rintro L w4 ⟨rfl,O,rfl⟩))
   all_goals
    go_wp2;go_ret;exact⟨rfl,C.o.Rr (S:=[]) aD aS aS,(by repeat (first|exact r.o|apply af.Rs|apply af.drew))⟩
end
def AR.Tz(A:AR)(nodes:Int):Int:=if nodes<1\/32<nodes then 1 else A.RU nodes
theorem IN{w:World}{ab wb:Nat}{A:AR}(h:ax w ab wb A)(a:Int)(d:A.Tz a=0):
 Calls prog 93 #[some ab,a] w λe w'=>∃tb,e= .returned (.tuple #[some tb,(0:Int)])/\w.heap.size<=tb/\
  nK w' tb ab (A.taken+1) a.toNat (λ_=>0) 0/\ax w' ab wb (A.take a)/\af [ab,wb] w w':=by
 have b:¬(a<1\/32<a):=by intro r;unfold AR.Tz at d;rw[ad r] at d;omega
 have k:A.RU a=0:=by unfold AR.Tz at d;rwa [ac b] at d
 have h1:¬a<1:=by omega
 have h2:¬32<a:=by omega
 have d1:decide (a<1)=false:=by simp;omega
 have d2:decide (32<a)=false:=by simp;omega
 have hn:A.takeN a=(A.taken:Int)+1:=by unfold AR.takeN;rw[ad k]
 have j:=fL h a;rw[k,hn] at j;have o:=aH j;have s:=h.le;have l:=h.room;have q:=h.box.lt;have t:=h.row.lt;clear h d k j hn b;go_enter func93,ntmps93;go_wp2_with fail;refine gF o.o ?_;rintro w1 ⟨c,i⟩;have m:=i.size;have n:=aH i;have g:=aH c;clear c i;go_wp2;go_ret2;refine⟨w1.heap.size,rfl,m,?_,?_,n.o.alloc _⟩
 ·have f:=aq.new w1 (.pointer (some ⟨ab,0,none⟩):: .int .i64 ((A.taken:Int)+1):: .int .i64 a::dn λ_=>0).toArray 250;refine{box:=?_,SI:=by omega,SJ:=by omega,Tp:=by omega,bd:=λ_=>ba _};have p:((a.toNat:Nat):Int)=a:=by omega
  rw[p];exact f
 ·exact{g.o with box:=g.o.box.alloc _,row:=g.o.row.alloc _}
end Go.Proofs.YteijjhahgabalaaGreat
