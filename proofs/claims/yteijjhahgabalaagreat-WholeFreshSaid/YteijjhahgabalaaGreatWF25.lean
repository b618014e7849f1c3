/- Where a lock of package hclh lies. -/
import Derived.Test.YteijjhahgabalaaGreatWF09
import Derived.Test.YteijjhahgabalaaGreatWF24
import Derived.Test.YteijjhahgabalaaGreatWF23
import Derived.Test.YteijjhahgabalaaGreatWF07
import Derived.Test.YteijjhahgabalaaGreatWF06
import Derived.Deep.RegionWith
import Derived.Deep.DeepCutAuto
import Derived.Test.YteijjhahgabalaaGreatWF19
import Derived.Test.YteijjhahgabalaaGreatWF20
set_option maxRecDepth 100000
set_option maxHeartbeats 8000000
set_option linter.all false
namespace Go.Proofs.YteijjhahgabalaaGreat
open Go.RowKit
open Tryz
structure mq where
 P:List Int
 T:List Int
 tail:Nat
 uf:Nat
 RN:Int
def mq.n(M:mq):Nat:=M.T.length
def mq.nd(M:mq)(th:Nat):Nat:=mS M.P (M.T[th]?.getD 0)
structure oF where
 A:AR
 S:Nat->Nat->Int
 D:Nat->Nat
structure Jh where
 lb:Nat
 tb:Nat
 ub:Nat
 sb:Nat
 ab:Nat
 wb:Nat
structure fg(w:World)(B:Jh)(M:mq)(X:oF):Prop where
 box:aq w B.lb [some B.ab,some B.tb,M.tail,some B.ub,M.RN,.slice (some ⟨B.sb,0,none⟩) M.n M.n] 220
 Sj:jG w B.tb M.P M.T
 tr:∃m,nK w B.ub B.ab M.uf M.n X.D m
 row:aq w B.sb (dJ M.n X.S) 138
 ar:ax w B.ab B.wb X.A
 ok:ea M.P M.T
 tl:M.tail<=4096
section
variable{w w':World}{B:Jh}{M:mq}{X:oF}
theorem fg.Ry(h:fg w B M X):M.n<=32:=h.ok.size.2.2.2
theorem fg.ne(h:fg w B M X):B.ub≠B.sb/\B.ub≠B.ab/\B.ub≠B.wb/\B.sb≠B.ab/\B.sb≠B.wb:=by
 obtain⟨m,ht⟩:=h.tr;exact⟨ht.box.differ h.row aJ,ht.box.differ h.ar.box aJ,ht.box.differ h.ar.row aJ,h.row.differ h.ar.box aJ,h.row.differ h.ar.row aJ⟩
theorem fg.free(h:fg w B M X):fF w [B.ub,B.sb,B.ab,B.wb]:=λz b=>by
 have a:z=B.ub\/z=B.sb\/z=B.ab\/z=B.wb:=by simpa using b
 rcases a with e|e|e
 ·subst e;obtain⟨m,ht⟩:=h.tr;exact⟨_,_,ht.box,by decide⟩
 ·subst e;exact⟨_,_,h.row,by decide⟩
 ·exact h.ar.SF e
variable{Z:List Nat}
theorem fg.re(h:fg w B M X)(a:af Z w w')(c:∀z∈Z,z∈[B.ub,B.sb,B.ab,B.wb]){X':oF}(h1:∃m,nK w' B.ub B.ab M.uf M.n X'.D m)(h2:aq w' B.sb (dJ M.n X'.S) 138)(h3:ax w' B.ab B.wb X'.A):fg w' B M X':=
 have b:fF w Z:=h.free.sub c
 {box:=h.box.Rr a (b.not h.box),Sj:=h.Sj.SF a b,tr:=h1,row:=h2,ar:=h3,ok:=h.ok,tl:=h.tl}
theorem fg.stays(h:fg w B M X)(a:af Z w w')(c:fF w Z)(hn:∀z∈Z,z∉[B.ub,B.sb,B.ab,B.wb]):fg w' B M X:=by
 have b:∀z,z∈[B.ub,B.sb,B.ab,B.wb]->z∉Z:=λz h1 h2=>hn z h2 h1;obtain⟨m,ht⟩:=h.tr;exact{box:=h.box.Rr a (c.not h.box),Sj:=h.Sj.SF a c,tr:=⟨m,ht.Rr a (b _ aS)⟩,row:=h.row.Rr a (b _ aS),ar:=h.ar.Rr a (b _ aS) (b _ aS),ok:=h.ok,tl:=h.tl}
theorem fg.same(h:fg w B M X)(a:af [] w w'):fg w' B M X:=h.stays a (fF.nil _) aS
theorem fg.R1(h:fg w B M X){b:AR}(a:af [B.ab,B.wb] w w')(c:ax w' B.ab B.wb b):fg w' B M {X with A:=b}:=by
 have hn:=h.ne;obtain⟨m,ht⟩:=h.tr;exact h.re a aS ⟨m,ht.Rr a aQ⟩ (h.row.Rr a aQ) c
theorem fg.put(h:fg w B M X)(j:Nat){t:Nat}(ht:t<4)(v:Int):fg (w.setCell (B.sb,j*4+t) (.int .i64 v)) B M {X with S:=aa X.S j t v}:=by
 have a:af [B.sb] w (w.setCell (B.sb,j*4+t) (.int .i64 v)):=aU;have hn:=h.ne;have b:=h.row.set (j*4+t) (.int .i64 v);rw[i9 M.n X.S ht v] at b;obtain⟨m,hm⟩:=h.tr;exact h.re a aS ⟨m,hm.Rr a aQ⟩ b (h.ar.Rr a aQ aQ)
end
structure cj where
 K:CK
 gf:Nat
 fl:Nat
def cj.n(M:cj):Nat:=M.K.n
structure cf where
 C:CS
 D:DR
 S:Nat->Nat->Int
structure ei where
 lb:Nat
 tb:Nat
 gb:Nat
 db:Nat
 sb:Nat
 co:CB
def vg(T:TypeId):Prop:=T=258\/T=263\/T=265
structure au(T:TypeId)(w:World)(B:ei)(M:cj)(X:cf):Prop where
 ty:vg T
 box:aq w B.lb [some B.co.ab,some B.tb,some B.gb,some B.db,M.fl,some B.co.cb,.slice (some ⟨B.sb,0,none⟩) M.n M.n] T
 Sj:jG w B.tb M.K.P M.K.T
 gg:mT w B.gb B.co.ab M.gf M.K.E
 dr:gj w B.db (some ⟨B.gb,0,none⟩) X.D
 co:bg w B.co M.K X.C
 row:aq w B.sb (dJ M.n X.S) 138
 Sg:B.sb∉CZ B.co M.K
def dR(B:ei)(K:CK):List Nat:=B.sb::B.db::CZ B.co K
theorem bg.Ut{w w':World}{B:CB}{K:CK}{S:CS}{db:Nat}(h:bg w B K S){d:AR}(c:af [db,B.ab,B.wb] w w')(b:fF w [db,B.ab,B.wb])(hd:db∉CZ B K)(f:ax w' B.ab B.wb d):bg w' B K {S with A:=d}:=by
 have a:∀z,z∈CZ B K->z≠db:=λz i e=>hd (e ▸ i);obtain⟨cells,hn,g⟩:=h.Sh;have n1:=h.row.differ h.ar.box aJ;have j:=h.row.differ h.ar.row aJ;exact{box:=h.box.Rr c (b.not h.box),Sj:=h.Sj.SF c b,Sf:=(by have:=h.Sf.apart;have:=a B.gs (a8.2 aS);exact h.Sf.re c (h.Sf.TQ b).1 (h.Sf.TQ b).2 aQ f),Sh:=⟨cells,hn.Rr c (b.not hn),g⟩,loc:=λv hv=>(by have:=(h.loc v hv).apart;have:=a (B.sb v) (a8.2 (.inr (.inr (.inr (.inr ⟨v,hv,rfl⟩)))));exact(h.loc v hv).re c ((h.loc v hv).TQ b).1 ((h.loc v hv).TQ b).2 aQ f),row:=h.row.Rr c (by have:=a B.cs (a8.2 aS);simp;omega),Sg:=h.Sg,ok:=h.ok}
section
variable{T:TypeId}{w w':World}{B:ei}{M:cj}{X:cf}
theorem vg.free(h:vg T):T∉Ap:=by rcases h with rfl|rfl|rfl<;>decide
theorem au.Ry(h:au T w B M X):M.n<=32:=h.co.Ry.1
theorem au.UT(h:au T w B M X):B.db∉CZ B.co M.K:=λhm=>by
 rcases a8.1 hm with e|e|e|e|⟨v,hv,e⟩
 ·exact h.dr.differ h.co.row aJ e
 ·obtain⟨_,q⟩:=h.co.Sf.S3;exact h.dr.differ q aJ e
 ·exact h.dr.differ h.co.ar.box aJ e
 ·exact h.dr.differ h.co.ar.row aJ e
 ·obtain⟨_,q⟩:=(h.co.loc v hv).S3;exact h.dr.differ q aJ e.symm
theorem au.free(h:au T w B M X):fF w (dR B M.K):=λz a=>by
 rcases kq.1 a with e|a
 ·subst e;exact⟨_,_,h.row,by decide⟩
 ·rcases kq.1 a with e|a
  ·subst e;exact⟨_,_,h.dr,by decide⟩
  ·exact h.co.free z a
theorem au.sd(h:au T w B M X):B.sb≠B.db:=h.row.differ h.dr aJ
theorem au.re(h:au T w B M X){Z:List Nat}(a:af Z w w')(b:fF w Z){X':cf}(h1:gj w' B.db (some ⟨B.gb,0,none⟩) X'.D)(h2:bg w' B.co M.K X'.C)(h3:aq w' B.sb (dJ M.n X'.S) 138):au T w' B M X':=
 {ty:=h.ty,box:=h.box.Rr a (b.not h.box h.ty.free),Sj:=h.Sj.SF a b,gg:={h.gg with box:=h.gg.box.Rr a (b.not h.gg.box)},dr:=h1,co:=h2,row:=h3,Sg:=h.Sg}
theorem au.stays(h:au T w B M X){Z:List Nat}(a:af Z w w')(b:fF w Z)(hn:∀z∈Z,z∉dR B M.K):au T w' B M X:=by
 have c:∀z,z∈dR B M.K->z∉Z:=λz h1 h2=>hn z h2 h1;exact h.re a b (h.dr.Rr a (c _ (by simp[dR]))) (h.co.stays a b (λz d hm=>hn z d (by simp[dR,hm]))) (h.row.Rr a (c _ (by simp[dR])))
theorem au.same(h:au T w B M X)(a:af [] w w'):au T w' B M X:=h.stays a (fF.nil _) aS
theorem au.TC(h:au T w B M X){C:CS}(a:af (CZ B.co M.K) w w')(b:bg w' B.co M.K C):au T w' B M {X with C:=C}:=
 h.re a h.co.free (h.dr.Rr a h.UT) b (h.row.Rr a h.Sg)
theorem au.R1(h:au T w B M X){A:AR}(a:af [B.co.ab,B.co.wb] w w')(b:ax w' B.co.ab B.co.wb A):au T w' B M {X with C:={X.C with A:=A}}:=
 h.TC (a.mono (λz c=>a8.2 (by simp at c;omega))) (h.co.R1 a b)
theorem au.put(h:au T w B M X)(j:Nat){t:Nat}(ht:t<4)(v:Int):au T (w.setCell (B.sb,j*4+t) (.int .i64 v)) B M {X with S:=aa X.S j t v}:=by
 have a:af [B.sb] w (w.setCell (B.sb,j*4+t) (.int .i64 v)):=aU;have b:fF w [B.sb]:=fF.one h.row;refine h.re a b (h.dr.Rr a (by have:=h.sd;simp;omega)) (h.co.stays a b (λz c hm=>h.Sg (by simp at c;rwa [c] at hm))) ?_;have:=h.row.set (j*4+t) (.int .i64 v)
 rwa [i9 M.n X.S ht v] at this
theorem au.drain(h:au T w B M X){D:DR}(a:af [B.db] w w')(d:gj w' B.db (some ⟨B.gb,0,none⟩) D):au T w' B M {X with D:=D}:=by
 have b:fF w [B.db]:=fF.one h.dr;exact h.re a b d (h.co.stays a b (λz c hm=>h.UT (by simp at c;rwa [c] at hm))) (h.row.Rr a (by have:=h.sd;simp;omega))
variable{z:Nat}{K:CK}
theorem u0(a:z∈CZ B.co K):z∈dR B K:=by simp[dR,a]
theorem pC(a:z∈[B.co.ab,B.co.wb]):z∈dR B K:=u0 (a8.2 (by simp at a;omega))
theorem au.cells(h:au T w B M X):w.cell? (B.lb,0)=some (.pointer (some ⟨B.co.ab,0,none⟩))/\w.cell? (B.lb,1)=some (.pointer (some ⟨B.tb,0,none⟩))/\w.cell? (B.lb,2)=some (.pointer (some ⟨B.gb,0,none⟩))/\w.cell? (B.lb,3)=some (.pointer (some ⟨B.db,0,none⟩))/\w.cell? (B.lb,4)=some (.int .i64 M.fl)/\w.cell? (B.lb,5)=some (.pointer (some ⟨B.co.cb,0,none⟩))/\w.cell? (B.lb,6)=some (.slice (some ⟨B.sb,0,none⟩) M.n M.n):=
 ⟨h.box.cell (i:=0) rfl,h.box.cell (i:=1) rfl,h.box.cell (i:=2) rfl,h.box.cell (i:=3) rfl,h.box.cell (i:=4) rfl,h.box.cell (i:=5) rfl,h.box.cell (i:=6) rfl⟩
variable{j:Nat}
theorem au.sp(h:au T w B M X)(hj:j<M.n):w.cell? (B.sb,j*4)=some (.int .i64 (X.S j 0))/\w.cell? (B.sb,j*4+1)=some (.int .i64 (X.S j 1))/\w.cell? (B.sb,j*4+2)=some (.int .i64 (X.S j 2))/\w.cell? (B.sb,j*4+3)=some (.int .i64 (X.S j 3)):=
 ⟨h.row.cell (a9 M.n X.S (t:=0) hj aO),h.row.cell (a9 M.n X.S (t:=1) hj aO),h.row.cell (a9 M.n X.S (t:=2) hj aO),h.row.cell (a9 M.n X.S (t:=3) hj aO)⟩
theorem au.Vo(h:au T w B M X)(hj:j<M.n){v:Int}(e:X.S j 0=v):w.cell? (B.sb,j*4)=some (.int .i64 v):=by rw[<-e];exact(h.sp hj).1
theorem au.Sz(h:au T w B M X)(j:Nat)(v:Int):au T (w.setCell (B.sb,j*4) (.int .i64 v)) B M {X with S:=aa X.S j 0 v}:=by
 have:=h.put j (t:=0) aO v
 rwa [ve] at this
theorem au.Sb(K:CK){o:Nat}{v:Value}:af (dR B K) w (w.setCell (B.sb,o) v):=aF.set _ _ (.inl (by simp[dR]))
def gh(S:Nat->Nat->Int)(j:Nat)(a b:Int):Nat->Nat->Int:=aa (aa (aa (aa S j 0 a) j 1 b) j 2 0) j 3 0
theorem au.SV(h:au T w B M X)(j:Nat)(a b:Int):au T ((((w.setCell (B.sb,j*4) (.int .i64 a)).setCell (B.sb,j*4+1) (.int .i64 b)).setCell (B.sb,j*4+2) (.int .i64 0)).setCell (B.sb,j*4+3) (.int .i64 0)) B M {X with S:=gh X.S j a b}/\af (dR B M.K) w ((((w.setCell (B.sb,j*4) (.int .i64 a)).setCell (B.sb,j*4+1) (.int .i64 b)).setCell (B.sb,j*4+2) (.int .i64 0)).setCell (B.sb,j*4+3) (.int .i64 0)):=
 ⟨(((h.Sz j a).put j (t:=1) aO b).put j (t:=2) aO 0).put j (t:=3) aO 0,((au.Sb M.K).trans (au.Sb M.K)).trans ((au.Sb M.K).trans (au.Sb M.K))⟩
theorem IG(S:Nat->Nat->Int)(j:Nat)(a b c d:Int):gh (gh S j a b) j c d=gh S j c d:=by
 funext x y
 simp only[gh,aa]
 repeat' split
 all_goals first|rfl|omega
abbrev cK(T:TypeId)(B:ei)(M:cj)(f:FuncId)(args:Array Value)(w:World)(v:Value)(X:cf):Prop:=Calls prog f args w λe w'=>e= .returned v/\au T w' B M X/\af (dR B M.K) w w'
theorem qI(h:au T w B M X)(k:Int):cK T B M 344 #[some B.gb,k] w (.tuple #[]) {X with C:={X.C with A:=X.C.A.RF M.gf M.K.E k 0}}:=
 (yf h.gg h.co.ar k).mono λe w' ⟨h1,h2,h3⟩=>⟨h1,h.R1 h3 h2,h3.mono λz a=>pC a⟩
theorem yK(h:au T w B M X)(k:Int):cK T B M 345 #[some B.gb,k] w (.tuple #[]) {X with C:={X.C with A:=X.C.A.RF M.gf M.K.E k 1}}:=
 (AW h.gg h.co.ar k).mono λe w' ⟨h1,h2,h3⟩=>⟨h1,h.R1 h3 h2,h3.mono λz a=>pC a⟩
theorem uU(h:au T w B M X)(i:Int):cK T B M 219 #[some B.co.cb,i] w (.bool (ai M.K.n X.C.TS i 0)) {X with C:=bu M.K X.C i}:=
 (tq h.co i).mono λe w' ⟨h1,h2,h3⟩=>⟨h1,h.TC h3 h2,h3.mono λz a=>u0 a⟩
theorem sn(h:au T w B M X)(i:Int):cK T B M 221 #[some B.co.cb,i] w (.bool (ai M.K.n X.C.TS i 10)) {X with C:=bj M.K X.C i}:=
 (pM h.co i).mono λe w' ⟨h1,h2,h3⟩=>⟨h1,h.TC h3 h2,h3.mono λz a=>u0 a⟩
theorem my(h:au T w B M X)(a:dU M.K X.C)(i:Int):cK T B M 223 #[some B.co.cb,i] w (.bool (a5 M.K X.C i)) {X with C:=ay M.K X.C i}:=
 (ro h.co a i).mono λe w' ⟨h1,h2,h3⟩=>⟨h1,h.TC h3 h2,h3.mono λz b=>u0 b⟩
theorem qH(h:au T w B M X)(a b:Int)(o:Bool):cK T B M 346 #[some B.db,a,b,o] w (.bool (decide (b<=a))) {X with D:=X.D.Rw a b o}:=
 (xZ h.dr a b o).mono λe w' ⟨h1,h2,h3⟩=>⟨h1,h.drain h3 h2,h3.mono (by simp[dR])⟩
def be(M:cj)(X:cf):cf:=⟨{X.C with A:=X.C.A.ST M.gf M.K.E X.D},X.D.step (X.C.A.Sy M.gf M.K.E X.D.at_ 1) (X.C.A.Sy M.gf M.K.E X.D.at_ 0),X.S⟩
def kQ(M:cj)(X:cf):Bool:=X.D.RD (X.C.A.Sy M.gf M.K.E X.D.at_ 0)
theorem mz(h:au T w B M X):cK T B M 347 #[some B.db] w (.bool (kQ M X)) (be M X):=by
 have n1:=h.dr.differ h.gg.box aJ;have d:=h.dr.differ h.co.ar.box aJ;have f:=h.dr.differ h.co.ar.row aJ;have g:=h.gg.box.differ h.co.ar.box aJ;have i:=h.gg.box.differ h.co.ar.row aJ;refine(AU h.dr h.gg h.co.ar ⟨n1,d,f,g,i⟩).mono λe w' ⟨h1,h2,h3,h4,h5⟩=>⟨h1,?_,h5.mono λz a=>?_⟩
 ·have c:fF w [B.db,B.co.ab,B.co.wb]:=λz a=>by
   rcases kq.1 a with e|a
   ·subst e;exact⟨_,_,h.dr,by decide⟩
   ·exact h.co.ar.SF (by simpa using a)
  have hs:=h.sd;have b:=h.UT;refine h.re (X':=be M X) h5 c h2 ?_ (h.row.Rr h5 (by have a1:=h.row.differ h.co.ar.box aJ;have a2:=h.row.differ h.co.ar.row aJ;simp;omega));exact bg.Ut h.co h5 c b h3
 ·rcases kq.1 a with e|a
  ·simp[dR,e]
  ·exact pC a
theorem z6(h:au T w B M X):cK T B M 368 #[some B.db] w (.bool X.D.clear) X:=
 (x5 h.dr).mono λe w' ⟨h1,h2⟩=>⟨h1,h2 ▸ h,h2 ▸ aF⟩
theorem qJ(h:au T w B M X)(i v:Int):cK T B M 63 #[some B.co.ab,i,v] w (.tuple #[]) {X with C:={X.C with A:=X.C.A.store i v}}:=
 (iN h.co.ar i v).mono λe w' ⟨h1,h2,h3⟩=>⟨h1,h.R1 h3 h2,h3.mono λz a=>pC a⟩
theorem JA(h:au T w B M X)(i v:Int):cK T B M 179 #[some B.co.ab,i,v] w (.int .i64 (X.C.A.RH i v)) {X with C:={X.C with A:=X.C.A.add i v}}:=
 (qq h.co.ar i v).mono λe w' ⟨h1,h2,h3⟩=>⟨h1,h.R1 h3 h2,h3.mono λz a=>pC a⟩
theorem uV(h:au T w B M X)(i:Int):cK T B M 106 #[some B.co.ab,i] w (.int .i64 (X.C.A.get i)) {X with C:={X.C with A:=X.C.A.load i}}:=
 (fh h.co.ar i).mono λe w' ⟨h1,h2,h3⟩=>⟨h1,h.R1 h3 h2,h3.mono λz a=>pC a⟩
end
section
variable{w w':World}{B:ei}{M:cj}{X:cf}{j:Nat}
theorem Bi(h:au 258 w B M X):Calls prog 339 #[some B.lb] w λe w'=>e= .returned M.n/\w=w':=by
 have a:=h.box.cell (i:=6) rfl;clear h;go_enter func339,ntmps339;go_wp2;go_ret;exact⟨rfl,rfl⟩
theorem Jv(h:au 258 w B M X)(hj:j<M.n):Calls prog 340 #[some B.lb,j] w λe w'=>e= .returned true/\w=w':=by
 have a:=aH (Bi h);have hn:=h.Ry;obtain⟨d1,d2,d3⟩:=aI (j:=j) (n:=M.n);obtain⟨d4,d5,d6⟩:=aP (j:=j) (n:=M.n);have l1:(j:Int)<M.n:=by omega
 clear h;go_enter func340,ntmps340;go_wp2_with fail;refine gF a.o ?_;rintro w' rfl;go_wp2;go_ret;exact⟨rfl,rfl⟩
theorem nT:(∀{w:World}{B:ei}{M:cj}{X:cf}{j:Nat}(h:au 258 w B M X)(hj:j<M.n),Calls prog 337 #[some B.lb,j] w λe w'=>e= .returned (.agg #[(X.S j 0:Int),(X.S j 1:Int),(X.S j 2:Int),(X.S j 3:Int)])/\af [] w w')/\(∀{w:World}{B:ei}{M:cj}{X:cf}{j:Nat}(h:au 258 w B M X)(hj:j<M.n)(a:X.S j 0≠0)(r:Bool),cK 258 B M 334 #[some B.lb,j,r] w (.bool false) X)/\(∀{w:World}{B:ei}{M:cj}{X:cf}{j:Nat}(h:au 258 w B M X)(hj:j<M.n)(a:X.S j 0=0),cK 258 B M 334 #[some B.lb,j,true] w (.bool true) {X with S:=gh X.S j 1 1})/\(∀{w:World}{B:ei}{M:cj}{X:cf}{j:Nat}(h:au 258 w B M X)(hj:j<M.n)(a:X.S j 0=0),cK 258 B M 334 #[some B.lb,j,false] w (.bool true) {X with C:=bu M.K X.C j,S:=gh X.S j 7 0}):=by
 refine⟨?_,?_,?_,?_⟩;intro w B M X j h hj;have b:af [] w (w.alloc (.cells #[(0:Int),(0:Int),(0:Int),(0:Int)] 138)):=aF.alloc _;have h2:=h.same b;have l:=aH (Jv h2 hj);have m:=h2.box.cell (i:=6) rfl;obtain⟨k,p,q,s⟩:=h2.sp hj;rotate_left;intro w B M X j h hj a r;unfold cK;rotate_left;iterate 2
  intro w B M X j h hj a;unfold cK;rotate_left
 all_goals
  have hn:=h.Ry;obtain⟨d1,d2,d3⟩:=aI (j:=j) (n:=M.n);obtain⟨d4,d5,d6⟩:=aP (j:=j) (n:=M.n);have l1:(j:Int)<M.n:=by omega
 generalize X.S j 0=a0 at*;generalize X.S j 1=a1 at*;generalize X.S j 2=a2 at*;generalize X.S j 3=a3 at*;rotate_left;iterate 3
  obtain⟨c0,c1,c2,c3,x,y,m⟩:=h.cells;obtain⟨k,p,q,s⟩:=h.sp hj;have z:=h.row.frozen;have l:=aH (Jv h hj);rotate_left
 all_goals
  have o:= @aX prog
 focus
  clear h h2 b;go_enter func337,ntmps337
 rotate_left
 focus
  have A:(X.S j 0 !=0)=true:=by simpa using a
  generalize X.S j 0=a0 at*;have g:=aH h;have f:=aH (af.refl (dR B M.K) w);have HJ:=aH hj;clear h hj a;go_enter func334,ntmps334
 rotate_left;iterate 2
  focus
   rw[a] at k;have g:=aH h;have f:=aH (af.refl (dR B M.K) w);have HJ:=aH hj;clear h hj a;go_enter func334,ntmps334
  rotate_left
 all_goals
  go_wp2_with fail;refine gF l.o ?_;rintro w' rfl
 ·go_wp2_with fail;exact eO (v:=.agg #[a0,a1,a2,a3]) (by simp[results,results337,go_sem]) rfl ⟨rfl,aF.alloc _⟩
 ·go_wp2;go_ret;exact⟨rfl,g.o.same aD,f.o.trans aD⟩
 ·go_wp2;go_ret;have c:=g.o.SV j 1 1;exact⟨rfl,c.1,f.o.trans c.2⟩
 ·go_wp2_with fail;refine fT (uU g.o j) ?_;rintro e w1 ⟨rfl,d,b⟩;obtain⟨c0,c1,c2,c3,x,y,m⟩:=d.cells;obtain⟨k,p,q,s⟩:=d.sp HJ.o;have z:=d.row.frozen;have u:=aH d;have t:=aH (f.o.trans b);clear d b;go_wp2;go_ret;have c:=u.o.SV j 7 0;exact⟨rfl,c.1,t.o.trans c.2⟩
def uD:= @nT.1
def Lb:= @nT.2.1
def Lc:= @nT.2.2.1
def Ld:= @nT.2.2.2
theorem Ep(h:au 258 w B M X)(hj:j<M.n)(d:X.S j 0≠10):cK 258 B M 335 #[some B.lb,j] w (.bool false) X:=by
 unfold cK;have hn:=h.Ry;obtain⟨d1,d2,d3⟩:=aI (j:=j) (n:=M.n);obtain⟨d4,d5,d6⟩:=aP (j:=j) (n:=M.n);have l1:(j:Int)<M.n:=by omega
 have e:=uD h hj;have p:=dF;have o:(X.S j 0 !=10)=true:=by simpa using d
 have f:=aH h;have HJ:=aH hj;have g:=aH e;generalize X.S j 0=a0 at*;clear h hj e d;all_goals
  go_enter func335,ntmps335;go_wp2_with fail;refine gF g.o ?_;rintro w1 a;have b:=f.o.same a;obtain⟨c0,c1,c2,c3,k,l,m⟩:=b.cells;have q:=b.row.frozen;have i:=aH b;have c:=aH (a.mono (S':=dR B M.K) aS);clear b a;go_wp2;go_ret;exact⟨rfl,i.o.same aE,c.o.trans aE⟩
theorem Er(h:au 258 w B M X)(hj:j<M.n)(f:X.S j 0=10)(ha:X.S j 1=0\/X.S j 1=1):cK 258 B M 335 #[some B.lb,j] w (.bool true) {X with S:=aa X.S j 0 (12 - X.S j 1)}:=by
 unfold cK;have hn:=h.Ry;obtain⟨d1,d2,d3⟩:=aI (j:=j) (n:=M.n);obtain⟨d4,d5,d6⟩:=aP (j:=j) (n:=M.n);have l1:(j:Int)<M.n:=by omega
 have c:=uD h hj;have s:=dF;rw[f] at c;have i:=aH h;have HJ:=aH hj;clear h hj;rcases ha with ha|ha;all_goals
  have g:=aH ha;rw[ha] at c;have k:=aH c;have d:=aH f;clear c ha f;go_enter func335,ntmps335;go_wp2_with fail;refine gF k.o ?_;rintro w1 a;have b:=i.o.same a;obtain⟨c0,c1,c2,c3,p,q,r⟩:=b.cells;obtain⟨m,o,t,u⟩:=b.sp HJ.o;rw[d.o] at m;rw[g.o] at o;have v:=b.row.frozen;have l:=aH b;have e:=aH (a.mono (S':=dR B M.K) aS);clear b a;go_wp2_with fail;go_region;all_goals
   go_wp2;go_ret;rw[g.o];exact⟨rfl,(l.o.Sz j _).same aD,(e.o.trans (au.Sb M.K)).trans aD⟩
end
section
variable{w w':World}{B:ei}{M:cj}{X:cf}{j:Nat}
theorem BF(h:au 265 w B M X):Calls prog 374 #[some B.lb] w λe w'=>e= .returned M.n/\w=w':=by
 have a:=h.box.cell (i:=6) rfl;clear h;go_enter func374,ntmps374;go_wp2;go_ret;exact⟨rfl,rfl⟩
theorem JG(h:au 265 w B M X)(hj:j<M.n):Calls prog 375 #[some B.lb,j] w λe w'=>e= .returned true/\w=w':=by
 have a:=aH (BF h);have hn:=h.Ry;obtain⟨d1,d2,d3⟩:=aI (j:=j) (n:=M.n);obtain⟨d4,d5,d6⟩:=aP (j:=j) (n:=M.n);have l1:(j:Int)<M.n:=by omega
 clear h;go_enter func375,ntmps375;go_wp2_with fail;refine gF a.o ?_;rintro w' rfl;go_wp2;go_ret;exact⟨rfl,rfl⟩
theorem nV:(∀{w:World}{B:ei}{M:cj}{X:cf}{j:Nat}(h:au 265 w B M X)(hj:j<M.n),Calls prog 372 #[some B.lb,j] w λe w'=>e= .returned (.agg #[(X.S j 0:Int),(X.S j 1:Int),(X.S j 2:Int),(X.S j 3:Int)])/\af [] w w')/\(∀{w:World}{B:ei}{M:cj}{X:cf}{j:Nat}(h:au 265 w B M X)(hj:j<M.n)(a:X.S j 0≠0)(r:Bool),cK 265 B M 369 #[some B.lb,j,r] w (.bool false) X)/\(∀{w:World}{B:ei}{M:cj}{X:cf}{j:Nat}(h:au 265 w B M X)(hj:j<M.n)(a:X.S j 0=0),cK 265 B M 369 #[some B.lb,j,true] w (.bool true) {X with S:=gh X.S j 1 1})/\(∀{w:World}{B:ei}{M:cj}{X:cf}{j:Nat}(h:au 265 w B M X)(hj:j<M.n)(a:X.S j 0=0),cK 265 B M 369 #[some B.lb,j,false] w (.bool true) {X with S:=gh X.S j 5 0}):=by
 refine⟨?_,?_,?_,?_⟩;intro w B M X j h hj;have k:af [] w (w.alloc (.cells #[(0:Int),(0:Int),(0:Int),(0:Int)] 138)):=aF.alloc _;have h2:=h.same k;have g:=aH (JG h2 hj);have m:=h2.box.cell (i:=6) rfl;obtain⟨f,o,p,q⟩:=h2.sp hj;rotate_left;intro w B M X j h hj a r;unfold cK;rotate_left;iterate 2
  intro w B M X j h hj a;unfold cK;rotate_left
 all_goals
  have hn:=h.Ry;obtain⟨d1,d2,d3⟩:=aI (j:=j) (n:=M.n);obtain⟨d4,d5,d6⟩:=aP (j:=j) (n:=M.n);have l1:(j:Int)<M.n:=by omega
 generalize X.S j 0=a0 at*;generalize X.S j 1=a1 at*;generalize X.S j 2=a2 at*;generalize X.S j 3=a3 at*;rotate_left;iterate 3
  obtain⟨c0,c1,c2,c3,s,t,m⟩:=h.cells;obtain⟨f,o,p,q⟩:=h.sp hj;have x:=h.row.frozen;have g:=aH (JG h hj);rotate_left
 all_goals
  have l:= @aX prog
 focus
  clear h h2 k;go_enter func372,ntmps372
 rotate_left
 focus
  have u:(X.S j 0 !=0)=true:=by simpa using a
  generalize X.S j 0=a0 at*;have d:=aH h;have c:=aH (af.refl (dR B M.K) w);have HJ:=aH hj;clear h hj a;go_enter func369,ntmps369
 rotate_left
 focus
  rw[a] at f;have hQ:=(h.SV j 5 0).1;obtain⟨y,k1,k2,k3⟩:=hQ.sp hj;have A:=hQ.row.frozen;have z:=hQ.cells.2.2.2.2.2.2;have d:=aH h;have c:=aH (af.refl (dR B M.K) w);have HJ:=aH hj;clear h hj a hQ;go_enter func369,ntmps369
 rotate_left
 focus
  rw[a] at f;have d:=aH h;have c:=aH (af.refl (dR B M.K) w);have HJ:=aH hj;clear h hj a;go_enter func369,ntmps369
 rotate_left;all_goals
  go_wp2_with fail;refine gF g.o ?_;rintro w' rfl
 ·go_wp2_with fail;exact eO (v:=.agg #[a0,a1,a2,a3]) (by simp[results,results372,go_sem]) rfl ⟨rfl,aF.alloc _⟩
 ·go_wp2;go_ret;exact⟨rfl,d.o.same aD,c.o.trans aD⟩
 ·go_wp2;go_ret;have hQ:=d.o.SV j 5 0;have b:=hQ.1.SV j 1 1;rw[IG] at b;exact⟨rfl,b.1,c.o.trans (hQ.2.trans b.2)⟩
 ·go_wp2;go_ret;have b:=d.o.SV j 5 0;exact⟨rfl,b.1,c.o.trans b.2⟩
def sH:= @nV.1
def Mc:= @nV.2.1
def Md:= @nV.2.2.1
def Me:= @nV.2.2.2
theorem Fy(h:au 265 w B M X)(hj:j<M.n)(d:X.S j 0≠10):cK 265 B M 370 #[some B.lb,j] w (.bool false) X:=by
 unfold cK;have hn:=h.Ry;obtain⟨d1,d2,d3⟩:=aI (j:=j) (n:=M.n);obtain⟨d4,d5,d6⟩:=aP (j:=j) (n:=M.n);have l1:(j:Int)<M.n:=by omega
 have e:=sH h hj;have p:=dF;have o:(X.S j 0 !=10)=true:=by simpa using d
 have f:=aH h;have HJ:=aH hj;have g:=aH e;generalize X.S j 0=a0 at*;clear h hj e d;all_goals
  go_enter func370,ntmps370;go_wp2_with fail;refine gF g.o ?_;rintro w1 a;have b:=f.o.same a;obtain⟨c0,c1,c2,c3,k,l,m⟩:=b.cells;have q:=b.row.frozen;have i:=aH b;have c:=aH (a.mono (S':=dR B M.K) aS);clear b a;go_wp2;go_ret;exact⟨rfl,i.o.same aE,c.o.trans aE⟩
theorem Fz(h:au 265 w B M X)(hj:j<M.n)(i:X.S j 0=10)(ha:X.S j 1=0\/X.S j 1=1):cK 265 B M 370 #[some B.lb,j] w (.bool true) {X with S:=aa X.S j 0 (12 - X.S j 1)}:=by
 unfold cK;have hn:=h.Ry;obtain⟨d1,d2,d3⟩:=aI (j:=j) (n:=M.n);obtain⟨d4,d5,d6⟩:=aP (j:=j) (n:=M.n);have l1:(j:Int)<M.n:=by omega
 have e:=sH h hj;have v:=dF;rw[i] at e;have k:=aH h;have HJ:=aH hj;clear h hj;rcases ha with ha|ha;all_goals
  have f:=aH ha;rw[ha] at e;have l:=aH e;have c:=aH i;clear e ha i;go_enter func370,ntmps370;go_wp2_with fail;refine gF l.o ?_;rintro w1 a;have d:=k.o.same a;obtain⟨c0,c1,c2,c3,s,t,u⟩:=d.cells;obtain⟨p,q,x,y⟩:=d.sp HJ.o;rw[c.o] at p;rw[f.o] at q;have z:=d.row.frozen;have m:=aH d;have g:=aH (a.mono (S':=dR B M.K) aS);clear d a;have b:=m.o.same ((af.refl [] w1).alloc (.cells #[(10:Int),(X.S j 1:Int),(X.S j 2:Int),(X.S j 3:Int)] 138));rw[f.o] at b;have A:=b.cells.2.2.2.2.2.2;have r:=(b.sp HJ.o).1;rw[c.o] at r;have C:=b.row.frozen;have o:=aH b;clear b;go_wp2_with fail;go_region;all_goals
   go_wp2;go_ret;rw[f.o];exact⟨rfl,(o.o.Sz j _).same aD,(g.o.trans ((aF.alloc _).trans (au.Sb M.K))).trans aD⟩
end
theorem QL.TY{S S':Nat->Nat->Int}{nx:Nat->Int}:∀{Q:List Nat},QL S nx Q->(∀j∈Q.tail,S' j 0=S j 0/\(S j 0=4->S' j 1=S j 1))->QL S' nx Q
 | [],_,_=>trivial
 | [_],h,_=>h
 |p::q::r,h,hs=>by
  obtain⟨h1,h2⟩:=h;have a:=hs q aS;refine⟨?_,QL.TY h2 (λj hj=>hs j (by simp at hj⊢;exact .inr hj))⟩;rcases h1 with h1|h1
  ·exact .inl ⟨a.1.trans h1.1,(a.2 h1.1).trans h1.2.1,h1.2.2⟩
  ·exact .inr ⟨a.1.trans h1.1,h1.2⟩
section
variable{n b:Nat}{w:CV}{S S':Nat->Nat->Int}{Q:List Nat}{o:Option Nat}{A:AR}{j:Nat}
theorem MC.congr(h:MC n w S Q o)(f:∀k,S' k 0=S k 0)(h1:∀k,S k 0=4\/S k 0=14->S' k 1=S k 1):MC n w S' Q o where
 nd:=h.nd
 lt:=h.lt
 mem k d c:=h.mem k d (by rw[f] at c;exact c)
 idle k d c:=by rw[f];exact h.idle k d c
 RG k d c:=h.RG k d (by rw[f] at c;exact c)
 Rv x i:=by
  have:=h.Rv x i;rw[f];refine⟨this.1,?_⟩;rcases this.2 with q|q|⟨q,a,r,e,l,m⟩
  ·exact .inl q
  ·exact .inr (.inl q)
  ·exact .inr (.inr ⟨q,a,r,e,(h1 x (.inr q)).trans l,(f a).trans m⟩)
 Tq e a r g:=by rw[f];exact h.Tq e a r g
 RC k d:=by rw[f];exact h.RC k d
 tl:=h.tl
 ql:=h.ql.TY λk _=>⟨f k,λe=>h1 k (.inl e)⟩
 w1:=h.w1
 p2 k d c:=h.p2 k d (by rw[f] at c;exact c)
 p3 k d c:=h.p3 k d (by rw[f] at c;exact c)
def cw(w:CV):CV:=⟨w.tl,w.nx,λk=>if w.wt k=0 then 1 else 0⟩
def yJ(pc:Int):Int:=if pc=6\/pc=15 then 10 else if pc=16 then 14 else pc
def rv(S:Nat->Nat->Int)(j t:Nat):Int:=if t=0 then yJ (S j 0) else if S j 0=16/\t=1 then S j 2 else S j t
theorem sj:rv S j 0=yJ (S j 0):=rfl
theorem Pm(h:S j 0≠16):rv S j 1=S j 1:=by simp[rv,h]
theorem Rn(h:S j 0=16):rv S j 1=S j 2:=by simp[rv,h]
variable{k:Nat}
theorem yI(h:∀t,S' k t=S k t)(t:Nat):rv S' k t=rv S k t:=by unfold rv;rw[h,h,h]
theorem pU(pc:Int):(yJ pc=10/\(pc=6\/pc=15))\/(yJ pc=14/\pc=16)\/(yJ pc=pc/\pc≠6/\pc≠15/\pc≠16):=by
 unfold yJ;by_cases h:pc=6\/pc=15
 ·rw[ad h];exact .inl ⟨rfl,h⟩
 ·rw[ac h];by_cases a:pc=16
  ·rw[ad a];exact .inr (.inl ⟨rfl,a⟩)
  ·rw[ac a];exact .inr (.inr ⟨rfl,by omega,by omega,a⟩)
structure RI(n b:Nat)(A:AR)(S:Nat->Nat->Int)(Q:List Nat)(o:Option Nat):Prop where
 mc:MC n (cw (cv b n A)) (rv S) Q o
 va:∀j,j<n->(S j 0=10\/S j 0=15\/S j 0=16->1<=S j 1)/\(S j 0=15\/S j 0=16->1<=S j 3)/\(11<=S j 0/\S j 0<=14->S j 3≠0)
def jq(n:Nat)(w:CV)(S:Nat->Nat->Int):Prop:=((∃j,j<n/\(S j 0=6\/(11<=S j 0/\S j 0<=14)))\/∀j,j<n->S j 0<6)/\∀j,j<n->S j 0=5->w.wt j<=0
def iS(n:Nat)(w:CV)(S:Nat->Nat->Int):Prop:=(∃j,j<n/\(S j 0=15\/S j 0=16))\/∃j,j<n/\S j 0=5/\0<w.wt j
theorem RI.pc(h:RI n b A S Q o)(hj:j<n):oh (S j 0):=by
 have:=h.mc.RC j hj;rw[sj] at this;have:=pU (S j 0);unfold oh;omega
theorem RI.ow(h:RI n b A S Q o)(hj:j<n)(c:6<=S j 0):o=some j:=by
 have a:=h.pc hj;unfold oh at a;exact h.mc.RG j hj (by rw[sj];have:=pU (S j 0);omega)
theorem RI.one(h:RI n b A S Q o)(hj:j<n)(c:k<n)(h1:6<=S j 0)(h2:6<=S k 0):j=k:=by
 have a:=h.ow hj h1;rw[h.ow c h2] at a;exact(nE a).symm
theorem RI.told(h:RI n b A S Q o)(hj:j<n)(h5:S j 0=5)(a:(cv b n A).wt j≠0):o=none:=by
 refine(h.mc.enter hj (by rw[sj,h5];rfl) ?_).1;show(if(cv b n A).wt j=0 then(1:Int) else 0)=0;rw[ac a]
theorem RI.low(h:RI n b A S Q o)(hj:j<n)(a:S j 0=6\/(11<=S j 0/\S j 0<=14)):jq n (cv b n A) S:=by
 refine⟨.inl ⟨j,hj,a⟩,λk c h5=>Int.not_lt.1 λd=>?_⟩;have:=h.told c h5 aO;rw[h.ow hj aO] at this;simp at this
theorem RI.TR(h:RI n b A S Q o)(hj:j<n)(h1:S j 0=10\/S j 0=15\/S j 0=16):¬jq n (cv b n A) S:=λhl=>by
 rcases hl.1 with⟨k,a,q⟩|q
 ·have:=h.one hj a aO aO;subst this;omega
 ·have:=q j hj;omega
theorem RI.Ti(h:RI n b A S Q o)(hj:j<n)(h1:S j 0=6\/(10<=S j 0/\S j 0<=14)):¬iS n (cv b n A) S:=λhl=>by
 rcases hl with⟨k,a,q⟩|⟨k,a,c,d⟩
 ·have:=h.one hj a aO aO;subst this;omega
 ·have:=h.told a c aO;rw[h.ow hj aO] at this;simp at this
end
structure eD where
 n:Nat
 bud:Int
 nv:Nat
 d:Nat->Nat
 pl:Nat->Nat->Nat
 sl:Nat->Nat->Nat
 sz:Nat->Nat
 tl:Nat->Nat
structure fB where
 A:AR
 R:Nat->Nat->Nat->Int
 S:Nat->Nat->Int
structure p6 where
 lb:Nat
 vb:Nat
 lv:Nat->Nat
 sb:Nat
 ab:Nat
 wb:Nat
 rl:Nat->Nat
 rs:Nat->Nat
def p6.rg(B:p6)(v:Nat):zd:=⟨B.rl v,B.rs v,B.ab,B.wb⟩
def eD.rg(M:eD)(v:Nat):nJ:=⟨M.sz v,M.tl v⟩
def fB.rg(X:fB)(v:Nat):lu:=⟨X.A,X.R v⟩
structure eD.Ok(M:eD):Prop where
 Ry:M.n<=32
 d1:∀t,t<M.n->1<=M.d t/\M.d t<=40
 pl:∀t l,t<M.n->l<M.d t->M.pl t l<M.nv
 sl:∀t l,t<M.n->l<M.d t->M.sl t l<M.sz (M.pl t l)
 bud:0<=M.bud/\M.bud<=1000
structure bQ(w:World)(B:p6)(M:eD)(X:fB):Prop where
 box:∃vr cap,aq w B.lb [M.bud,vr,.slice (some ⟨B.vb,0,none⟩) M.n cap,.slice (some ⟨B.sb,0,none⟩) M.n M.n] 207
 Un:∃cells,aq w B.vb cells 212/\∀t,t<M.n->∃cap,cells[t]? =some (.slice (some ⟨B.lv t,0,none⟩) (M.d t) cap)
 TD:∀t,t<M.n->∃cells,aq w (B.lv t) cells 215/\∀l,l<M.d t->cells[l*2]? =some (.pointer (some ⟨B.rl (M.pl t l),0,none⟩))/\cells[l*2+1]? =some (.int .i64 (M.sl t l))
 rg:∀v,v<M.nv->eY w (B.rg v) (M.rg v) (X.rg v)
 row:aq w B.sb (dJ M.n X.S) 138
 ar:ax w B.ab B.wb X.A
 Sg:(∀v,v<M.nv->B.sb≠B.rs v)/\∀u v,u<M.nv->v<M.nv->B.rs u=B.rs v->u=v
 ok:M.Ok
def xy(B:p6)(M:eD):List Nat:=B.sb::B.ab::B.wb::(List.range M.nv).map B.rs
section
variable{w w':World}{B:p6}{M:eD}{X:fB}
theorem jy{z:Nat}:z∈xy B M↔z=B.sb\/z=B.ab\/z=B.wb\/∃v,v<M.nv/\B.rs v=z:=by unfold xy;simp
theorem bQ.free(h:bQ w B M X):fF w (xy B M):=λz a=>by
 rcases jy.1 a with e|e|e|⟨v,hv,e⟩
 ·subst e;exact⟨_,_,h.row,by decide⟩
 ·exact h.ar.SF (.inl e)
 ·exact h.ar.SF (.inr e)
 ·subst e;exact⟨_,_,(h.rg v hv).row,by decide⟩
variable{Z:List Nat}
theorem bQ.re(h:bQ w B M X)(a:af Z w w')(b:fF w Z){X':fB}(h1:∀v,v<M.nv->eY w' (B.rg v) (M.rg v) (X'.rg v))(h2:aq w' B.sb (dJ M.n X'.S) 138)(h3:ax w' B.ab B.wb X'.A):bQ w' B M X':=by
 obtain⟨g,cap,c⟩:=h.box;obtain⟨cells,hl,e⟩:=h.Un;exact{
  box:=⟨g,cap,c.Rr a (b.not c)⟩,Un:=⟨cells,hl.Rr a (b.not hl),e⟩,TD:=λt ht=>by
   obtain⟨cs,d,f⟩:=h.TD t ht;exact⟨cs,d.Rr a (b.not d),f⟩,rg:=h1,row:=h2,ar:=h3,Sg:=h.Sg,ok:=h.ok}
theorem eY.ne{w:World}{B:zd}{M:nJ}{X:lu}(h:eY w B M X):B.sb≠B.ab/\B.sb≠B.wb:=⟨h.row.differ h.ar.box aJ,h.row.differ h.ar.row aJ⟩
theorem eY.stays{B:zd}{M:nJ}{X:lu}(h:eY w B M X)(b:af Z w w')(d:fF w Z)(hn:B.sb∉Z){a:AR}(c:ax w' B.ab B.wb a):eY w' B M ⟨a,X.S⟩:=h.re b d (h.row.Rr b hn) c
theorem bQ.stays(h:bQ w B M X){Z:List Nat}(a:af Z w w')(d:fF w Z)(hn:∀z∈Z,z∉xy B M):bQ w' B M X:=by
 have b:∀z,z∈xy B M->z∉Z:=λz h1 h2=>hn z h2 h1;have c:=h.ar.Rr a (b _ (jy.2 aS)) (b _ (jy.2 aS));exact h.re a d (λv hv=>(h.rg v hv).stays a d (b _ (jy.2 (.inr (.inr (.inr ⟨v,hv,rfl⟩))))) c) (h.row.Rr a (b _ (jy.2 aS))) c
theorem bQ.same(h:bQ w B M X)(a:af [] w w'):bQ w' B M X:=h.stays a (fF.nil _) aS
variable{v:Nat}
theorem bQ.TU(h:bQ w B M X)(hv:v<M.nv){A:AR}{R:Nat->Nat->Int}(a:af [B.rs v,B.ab,B.wb] w w')(d:eY w' (B.rg v) (M.rg v) ⟨A,R⟩):bQ w' B M {X with A:=A,R:=dL X.R v R}:=by
 have f:fF w [B.rs v,B.ab,B.wb]:=h.free.sub (λz g=>jy.2 (by
  simp at g;rcases g with e|e|e
  ·exact .inr (.inr (.inr ⟨v,hv,e.symm⟩))
  ·omega
  ·omega))
 have c:ax w' B.ab B.wb A:=d.ar;refine h.re a f (λu b=>?_) ?_ c
 ·show eY w' (B.rg u) (M.rg u) ⟨A,dL X.R v R u⟩;unfold dL;by_cases e:u=v
  ·subst e;rw[ad rfl];exact d
  ·rw[ac e];have n1:=(h.rg u b).ne;have j:B.rs u≠B.rs v:=λx=>e (h.Sg.2 u v b hv x);have i:(B.rg u).sb=B.rs u:=rfl;have k:B.rs u≠B.ab/\B.rs u≠B.wb:=n1;exact(h.rg u b).stays a f (by rw[i];simp;omega) c
 ·have n1:=h.row.differ h.ar.box aJ;have j:=h.row.differ h.ar.row aJ;have i:=h.Sg.1 v hv;exact h.row.Rr a aQ
variable{t:Nat}
theorem bQ.put(h:bQ w B M X)(j:Nat)(ht:t<4)(v:Int):bQ (w.setCell (B.sb,j*4+t) (.int .i64 v)) B M {X with S:=aa X.S j t v}:=by
 have a:af [B.sb] w (w.setCell (B.sb,j*4+t) (.int .i64 v)):=aU;have n1:=h.row.differ h.ar.box aJ;have f:=h.row.differ h.ar.row aJ;have c:=h.row.set (j*4+t) (.int .i64 v);rw[i9 M.n X.S ht v] at c;have b:=h.ar.Rr a aQ aQ;exact h.re a (fF.one h.row) (λu d=>(h.rg u d).stays a (fF.one h.row) (by have:=h.Sg.1 u d;have e:(B.rg u).sb=B.rs u:=rfl;rw[e];simp;omega) b) c b
theorem bQ.Sz(h:bQ w B M X)(j:Nat)(v:Int):bQ (w.setCell (B.sb,j*4) (.int .i64 v)) B M {X with S:=aa X.S j 0 v}:=by
 have:=h.put j (t:=0) aO v
 rwa [ve] at this
theorem bQ.Sb(M:eD){o:Nat}{v:Value}:af (xy B M) w (w.setCell (B.sb,o) v):=aF.set _ _ (.inl (by simp[xy]))
variable{j:Nat}
theorem bQ.sp(h:bQ w B M X)(hj:j<M.n):w.cell? (B.sb,j*4)=some (.int .i64 (X.S j 0))/\w.cell? (B.sb,j*4+1)=some (.int .i64 (X.S j 1))/\w.cell? (B.sb,j*4+2)=some (.int .i64 (X.S j 2))/\w.cell? (B.sb,j*4+3)=some (.int .i64 (X.S j 3)):=
 ⟨h.row.cell (a9 M.n X.S (t:=0) hj aO),h.row.cell (a9 M.n X.S (t:=1) hj aO),h.row.cell (a9 M.n X.S (t:=2) hj aO),h.row.cell (a9 M.n X.S (t:=3) hj aO)⟩
theorem u3(hv:v<M.nv):∀z∈[B.rs v,B.ab,B.wb],z∈xy B M:=λz a=>jy.2 (by
 simp at a;rcases a with e|e|e
 ·exact .inr (.inr (.inr ⟨v,hv,e.symm⟩))
 ·omega
 ·omega)
theorem bQ.Sk(h:bQ w B M X){l:Nat}(ht:t<M.n)(hl:l<M.d t):∃cap a,w.cell? (B.lb,2)=some (.slice (some ⟨B.vb,0,none⟩) M.n cap)/\w.cell? (B.vb,t)=some (.slice (some ⟨B.lv t,0,none⟩) (M.d t) a)/\w.cell? (B.lv t,l*2)=some (.pointer (some ⟨B.rl (M.pl t l),0,none⟩))/\w.cell? (B.lv t,l*2+1)=some (.int .i64 (M.sl t l)):=by
 obtain⟨j,cap,d⟩:=h.box;obtain⟨cells,e,f⟩:=h.Un;obtain⟨a,g⟩:=f t ht;obtain⟨cs,b,c⟩:=h.TD t ht;exact⟨cap,a,d.cell (i:=2) rfl,e.cell g,b.cell (c l hl).1,b.cell (c l hl).2⟩
theorem bQ.c3(h:bQ w B M X):w.cell? (B.lb,3)=some (.slice (some ⟨B.sb,0,none⟩) M.n M.n):=by
 obtain⟨b,cap,a⟩:=h.box;exact a.cell (i:=3) rfl
theorem bQ.c0(h:bQ w B M X):w.cell? (B.lb,0)=some (.int .i64 M.bud):=by
 obtain⟨b,cap,a⟩:=h.box;exact a.cell (i:=0) rfl
theorem bQ.Ry(h:bQ w B M X):M.n<=32:=h.ok.Ry
theorem pg(h:bQ w B M X):Calls prog 238 #[some B.lb] w λe w'=>e= .returned M.n/\w=w':=by
 have c3:=h.c3;clear h;go_enter func238,ntmps238;go_wp2;go_ret;exact⟨rfl,rfl⟩
theorem rM(h:bQ w B M X)(hj:j<M.n):Calls prog 236 #[some B.lb,j] w λe w'=>e= .returned (.agg #[(X.S j 0:Int),(X.S j 1:Int),(X.S j 2:Int),(X.S j 3:Int)])/\af [] w w':=by
 have a:af [] w (w.alloc (.cells #[(0:Int),(0:Int),(0:Int),(0:Int)] 138)):=aF.alloc _;have h2:=h.same a;have b:=aH (pg h2);have c3:=h2.c3;have c:=h2.row.cell (a9 M.n X.S (t:=0) hj aO);have f:=h2.row.cell (a9 M.n X.S (t:=1) hj aO);have g:=h2.row.cell (a9 M.n X.S (t:=2) hj aO);have i:=h2.row.cell (a9 M.n X.S (t:=3) hj aO);rw[ve] at c;have hn:=h.Ry;obtain⟨d1,d2,d3⟩:=aI (j:=j) (n:=M.n);have l1:(j:Int)<M.n:=by omega
 have d:=aH a;generalize X.S j 0=a0 at*;generalize X.S j 1=a1 at*;generalize X.S j 2=a2 at*;generalize X.S j 3=a3 at*;clear h h2 a;go_enter func236,ntmps236;go_wp2_with fail;refine gF b.o ?_;rintro w' rfl;go_wp2_with fail;exact eO (v:=.agg #[a0,a1,a2,a3]) (by simp[results,results236,go_sem]) rfl ⟨rfl,aF.alloc _⟩
end
structure xB where
 N:List Int
 at_:Int
 st:Int
structure xC where
 node:Int
 Sk:Bool
 ps:Int
 last:Int
 fo:Int
structure F4 where
 kb:Nat
 nb:Nat
 c1:Nat
 c2:Nat
 c3:Nat
 ab:Nat
def xB.n(M:xB):Nat:=M.N.length
def F4.f(B:F4):Value:=.func (.func 105) #[] #[some B.c1,some B.c2,some B.c3]
structure gv(w:World)(B:F4)(M:xB)(X:xC):Prop where
 box:aq w B.kb [B.f,.slice (some ⟨B.nb,0,none⟩) M.n M.n,X.node,X.Sk,X.ps,X.last,X.fo] 252
 row:aq w B.nb (M.N.map (Value.int .i64)) 3
 h1:aq w B.c1 [some B.ab] 74
 h2:aq w B.c2 [M.at_] 3
 h3:aq w B.c3 [M.st] 3
 Ry:M.n<=32
section
variable{w w':World}{B:F4}{M:xB}{X:xC}
theorem gv.stays(h:gv w B M X){Z:List Nat}(a:af Z w w')(b:fF w Z)(c:B.kb∉Z):gv w' B M X:=
 {h with box:=h.box.Rr a c,row:=h.row.Rr a (b.not h.row),h1:=h.h1.Rr a (b.not h.h1),h2:=h.h2.Rr a (b.not h.h2),h3:=h.h3.Rr a (b.not h.h3)}
theorem gv.same(h:gv w B M X)(a:af [] w w'):gv w' B M X:=h.stays a (fF.nil _) aS
theorem gv.Ua(h:gv w B M X){X':xC}(a:af [B.kb] w w')(c:aq w' B.kb [B.f,.slice (some ⟨B.nb,0,none⟩) M.n M.n,X'.node,X'.Sk,X'.ps,X'.last,X'.fo] 252):gv w' B M X':=by
 have b:fF w [B.kb]:=fF.one h.box;exact{h with box:=c,row:=h.row.Rr a (b.not h.row),h1:=h.h1.Rr a (b.not h.h1),h2:=h.h2.Rr a (b.not h.h2),h3:=h.h3.Rr a (b.not h.h3)}
def pA(M:xB)(x:Int):Bool:=decide (1<=x)&&decide (x<=M.n)
def dI(M:xB)(X:xC)(x:Int):xC:=
 if !(pA M x)||decide (X.ps=M.n) then{X with Sk:=false} else
 if M.N[x.toNat - 1]?.getD 0=X.node then{X with Sk:=false,fo:=x} else{X with Sk:=true,last:=x,ps:=wrap64 (X.ps+1)}
theorem E1(h:gv w B M X)(x:Int):Calls prog 303 #[some B.kb,x] w λe w'=>e= .returned (.bool (pA M x))/\w=w':=by
 have c1:=h.box.cell (i:=1) rfl;unfold pA;clear h;cases d1:decide (1<=x) with
 |false=>
  rw[lC];go_enter func303,ntmps303;go_wp2;go_ret;exact⟨rfl,rfl⟩
 |true=>
  rw[gS];cases d2:decide (x<=M.n)<;>
  ·go_enter func303,ntmps303;go_wp2;go_ret;exact⟨rfl,rfl⟩
theorem LV(h:gv w B M X):Calls prog 302 #[some B.kb] w λe w'=>e= .returned (.bool (!X.Sk))/\w=w':=by
 have c3:=h.box.cell (i:=3) rfl;clear h;go_enter func302,ntmps302;go_wp2;go_ret;exact⟨rfl,rfl⟩
theorem qL(h:gv w B M X):Calls prog 299 #[some B.kb] w λe w'=>e= .returned X.fo/\w=w':=by
 have a:=h.box.cell (i:=6) rfl;clear h;go_enter func299,ntmps299;go_wp2;go_ret;exact⟨rfl,rfl⟩
theorem LU(h:gv w B M X):Calls prog 300 #[some B.kb] w λe w'=>e= .returned X.last/\w=w':=by
 have a:=h.box.cell (i:=5) rfl;clear h;go_enter func300,ntmps300;go_wp2;go_ret;exact⟨rfl,rfl⟩
end
def mq.loc(M:mq)(th:Nat):Int:=(M.tail:Int)+1+(M.nd th:Nat)
def fO(M:mq)(X:oF)(j:Nat):oF×Int:=
 if X.S j 0=1 then
  (if X.A.get (M.loc j)≠0 then({X with A:=X.A.swap (M.loc j) (eN M.n X.D j),S:=aa X.S j 1 (X.A.get (M.loc j))},5)
   else if 0<M.RN then({X with A:=X.A.swap (M.loc j) (eN M.n X.D j),S:=aa (aa X.S j 1 (X.A.get (M.loc j))) j 2 M.RN},2)
   else({X with A:=X.A.swap (M.loc j) (eN M.n X.D j),S:=aa (aa X.S j 1 (X.A.get (M.loc j))) j 2 0},3))
 else if X.S j 0=2 then({X with S:=aa X.S j 2 (wrap64 (X.S j 2 - 1))},if 0<wrap64 (X.S j 2 - 1) then 2 else 3)
 else if X.S j 0=3 then({X with A:=X.A.swap (M.loc j) 0,S:=aa X.S j 3 (X.A.get (M.loc j))},4)
 else if X.S j 0=4 then({X with A:=X.A.swap M.tail (X.S j 3),S:=aa X.S j 1 (X.A.get M.tail)},if X.A.get M.tail=0 then 10 else 5)
 else if X.S j 0=5 then({X with A:=X.A.Sl M.uf M.n (X.S j 1)},if X.A.S0 M.uf M.n (X.S j 1)=true then 10 else 5)
 else({X with A:=X.A.SQ M.uf M.n j,D:=Ge M.n X.D j},0)
def oz(B:Jh):List Nat:=[B.ub,B.sb,B.ab,B.wb]
def cC(X:oF)(j:Nat):Bool:=decide (X.S j 0=1\/X.S j 0=2\/X.S j 0=3\/X.S j 0=4\/X.S j 0=5\/X.S j 0=11)
def di(M:mq)(X:oF)(j:Nat):Bool:=cC X j&&((fO M X j).2==10||(fO M X j).2==0)
def bO(M:mq)(X:oF)(j:Nat):oF:=if cC X j then{(fO M X j).1 with S:=aa (fO M X j).1.S j 0 (fO M X j).2} else X
def rE(w0:World)(Z:List Nat)(B:Jh)(M:mq)(w:World)(X:oF):Prop:=fg w B M X/\af Z w0 w
section
variable{w0 w w':World}{Z:List Nat}{B:Jh}{M:mq}{X:oF}{j:Nat}
theorem mq.Th(M:mq)(a:ea M.P M.T)(hj:j<M.n):M.nd j<(tE M.P).length:=by
 unfold mq.nd mS;refine qm.2 (kT a ?_);rw[eB hj];exact lB hj
theorem rE.fr(h:rE w0 Z B M w X)(a:af [] w w'):rE w0 Z B M w' X:=⟨h.1.same a,h.2.trans (a.mono aS)⟩
theorem rE.al(h:rE w0 Z B M w X)(o:Obj):rE w0 Z B M (w.alloc o) X:=h.fr ((af.refl [] _).alloc _)
theorem Ri:Cd (rE w0 Z B M) B.lb [some B.ab,some B.tb,M.tail,some B.ub,M.RN,.slice (some ⟨B.sb,0,none⟩) M.n M.n] 220 B.sb M.n oF.S:=⟨λh=>h.1.box,λh=>h.1.row,λh=>h.1.Ry,rE.fr⟩
theorem hcA:Hy (xF (rE w0 (oz B) B M) B.ab B.wb oF.A (λX A=>{X with A:=A})):=⟨λh=>h.1.ar,λh a b=>⟨h.1.R1 a b,h.2.trans (a.mono (by simp[oz]))⟩⟩
theorem My:B.sb∈oz B:=by simp[oz]
theorem NE:Pu (rE w0 Z B M) 258 #[some B.lb] X (.int .i64 M.n):=by
 intro w h;have a:=h.1.box.cell (i:=5) rfl;clear h;go_enter func258,ntmps258;go_wp2;go_ret;exact⟨rfl,rfl⟩
theorem Kl(hj:j<M.n):Ct (rE w0 Z B M) 256 #[some B.lb,j] X (.agg #[(X.S j 0:Int),(X.S j 1:Int),(X.S j 2:Int),(X.S j 3:Int)]) X:=by
 have K1:=aH (@NE w0 Z B M X);have CK:=aH λw h=>(@Ri w0 Z B M).k (w:=w) (x:=X) hj h;exact B3
theorem vh{p:Prop}(t:Nat)(h:Tg t->p:=by
 intro HT w HS;obtain⟨CK,DR,DA,Pa,Pb,Pc,Pd,CZ,RA,RP⟩:=(@Ri w0 _ B M).g (pt:=λX s=>{X with S:=s}) (λh t v ht=>⟨h.1.put j ht v,h.2.set _ _ (.inl hz)⟩) hj;have HA:= @hcA w0 B M;have C:=CK.o HS;simp only[de,jM,Nat.reduceAdd] at C;replace HS:=aH HS;exact gW):p:=h ⟨⟩
theorem Ny(hz:B.sb∈Z)(hj:j<M.n)(fr a:Int):Ct (rE w0 Z B M) 259 #[some B.lb,j,fr,a] X (.bool (ai M.n X.S j fr)) {X with S:=bo M.n X.S j fr a}:=by
 have K1:=aH (@NE w0 Z B M X).ct;refine Rf (pt:=λs=>{X with S:=s}) hj rfl ?_ ?_
 ·intro h;subst h;exact vh 0
 ·intro h;exact vh 0
theorem Kk(hj:j<M.n):Ct (rE w0 (oz B) B M) 254 #[some B.lb,j] X (.bool (ai M.n X.S j 0)) {X with S:=bo M.n X.S j 0 1}:=by
 have hz:= @My B;have K1:=aH (@Ny w0 (oz B) B M X j hz hj 0 1);exact vh 0
theorem Dp(hj:j<M.n):Ct (rE w0 (oz B) B M) 255 #[some B.lb,j] X (.bool (ai M.n X.S j 10)) {X with S:=bo M.n X.S j 10 11}:=by
 have hz:= @My B;have K1:=aH (@Ny w0 (oz B) B M X j hz hj 10 11);exact vh 0
theorem Qc(a:ea M.P M.T)(f:M.tail<=4096)(hj:j<M.n):Ct (rE w0 (oz B) B M) 266 #[some B.lb,j] X (.int .i64 (M.loc j)) X:=by
 have hz:= @My B;have d:=M.Th a hj;have c:=ki M.P;have hs:=a.size.2.1;have K1:=aH (show Ct (rE w0 (oz B) B M) 94 #[some B.tb,j] X (.int .i64 (M.nd j)) X fromλw h=>(iI h.1.Sj hj).mono λe w' q=>⟨q.1,q.2 ▸ h⟩);have e:M.loc j=wrap64 (wrap64 ((M.tail:Int)+1)+(M.nd j:Nat)):=by unfold mq.loc wrap64;omega
 clear d c hs a f;rw[e];exact vh 98
variable{N:Nat}
theorem G7(p:ea M.P M.T)(a:M.tail<=4096)(d:∀i,X.D i<=100000)(u:jp (X.S j 1))(hj:j<M.n)(x:X.S j 0=1/\N=260\/X.S j 0=2/\N=261\/X.S j 0=3/\N=262\/X.S j 0=4/\N=263\/X.S j 0=5/\N=264\/X.S j 0=11/\N=265):Ct (rE w0 (oz B) B M) N #[some B.lb,j] X (.int .i64 (fO M X j).2) (fO M X j).1:=by
 have hz:= @My B;have K1:=aH (@Qc w0 B M X j p a hj);have K2:=aH (show Ct (rE w0 (oz B) B M) 267 #[some B.ub,j] X (.int .i64 (eN M.n X.D j)) X fromλw h=>by
  obtain⟨m,ht⟩:=h.1.tr;exact(Bz (m:=100000) {ht with bd:=d} aO j).mono λe w' ⟨q,n,r⟩=>⟨q,h.fr (r ▸ (af.refl [] _).drew n)⟩)
 have K3:=show Ct (rE w0 (oz B) B M) 268 #[some B.ub,(X.S j 1:Int)] X (.bool (X.A.S0 M.uf M.n (X.S j 1))) {X with A:=X.A.Sl M.uf M.n (X.S j 1)} fromλw h=>by
  obtain⟨m,ht⟩:=h.1.tr;exact(IM ht h.1.ar ⟨h.1.ne.2.1,h.1.ne.2.2.1⟩ _ u).mono λe w' ⟨f,l,c⟩=>⟨f,h.1.R1 c l,h.2.trans (c.mono (by simp[oz]))⟩
 have K4:=aH (show Ct (rE w0 (oz B) B M) 269 #[some B.ub,j] X (.tuple #[]) {X with A:=X.A.SQ M.uf M.n j,D:=Ge M.n X.D j} fromλw h=>by
  obtain⟨m,ht⟩:=h.1.tr;have hn:=h.1.ne;exact(Bx (m:=100000) {ht with bd:=d} h.1.ar aO ⟨hn.2.1,hn.2.2.1⟩ j).mono λe w' ⟨f,l,c,o⟩=>⟨f,h.1.re o aS ⟨_,c⟩ (h.1.row.Rr o aQ) l,h.2.trans (o.mono (by simp[oz]))⟩)
 clear p a d u;rcases x with⟨h,rfl⟩|⟨h,rfl⟩|⟨h,rfl⟩|⟨h,rfl⟩|⟨h,rfl⟩|⟨h,rfl⟩<;>simp only[fO,h,Int.reduceEq,bt,br]
 ·refine qe (λg=>?_) λg=>qe (λg2=>?_) λg2=>?_
  ·clear K3;exact vh 1
  ·have g:=(by simpa using g:X.A.get (M.loc j)=0);clear K3;exact vh 1
  ·have g:=(by simpa using g:X.A.get (M.loc j)=0);clear K3;exact vh 1
 ·clear K1 K2 K3 K4;exact AS (λg=>vh 2) λg=>vh 2
 ·clear K2 K3 K4;exact vh 3
 ·clear K1 K2 K3 K4;exact AS (λg=>vh 1) λg=>vh 1
 ·clear K1 K2 K4;cases ht:X.A.S0 M.uf M.n (X.S j 1)<;>rw[ht] at K3<;>replace K3:=aH K3
  ·exact vh 98
  ·exact vh 98
 ·clear K1 K2 K3;exact vh 98
theorem ND{r:Int}{X':oF}(hj:j<M.n)(a:X.S j 0=1/\N=260\/X.S j 0=2/\N=261\/X.S j 0=3/\N=262\/X.S j 0=4/\N=263\/X.S j 0=5/\N=264\/X.S j 0=11/\N=265)(H:Ct (rE w0 (oz B) B M) N #[some B.lb,j] X (.int .i64 r) X'):Ct (rE w0 (oz B) B M) 257 #[some B.lb,j] X (.bool (r==10||r==0)) {X' with S:=aa X'.S j 0 r}:=by
 have hz:= @My B;have c:=dF;have K1:= @Kl w0 (oz B) B M X j hj;have K8:=aH H;clear H;rcases a with⟨h,rfl⟩|⟨h,rfl⟩|⟨h,rfl⟩|⟨h,rfl⟩|⟨h,rfl⟩|⟨h,rfl⟩<;>rw[h] at K1<;>replace K1:=aH K1<;>cases hb:(r==10)<;>exact vh 0
theorem NC(hj:j<M.n)(a:cC X j=false):Ct (rE w0 (oz B) B M) 257 #[some B.lb,j] X (.bool false) X:=by
 have hz:= @My B;have d:=dF;have K1:=aH (@Kl w0 (oz B) B M X j hj);have c:=of_decide_eq_false a;have k1:(X.S j 0==1)=false:=by simp;omega
 have k2:(X.S j 0==2)=false:=by simp;omega
 have k3:(X.S j 0==3)=false:=by simp;omega
 have k4:(X.S j 0==4)=false:=by simp;omega
 have k5:(X.S j 0==5)=false:=by simp;omega
 have e:(X.S j 0==11)=false:=by simp;omega
 clear a c;exact vh 0
theorem Km(h:fg w B M X)(hj:j<M.n):Calls prog 256 #[some B.lb,j] w λe w'=>e= .returned (.agg #[(X.S j 0:Int),(X.S j 1:Int),(X.S j 2:Int),(X.S j 3:Int)])/\af [] w w':=(@Kl w [] B M X j hj w ⟨h,aF⟩).mono λe w' q=>⟨q.1,q.2.2⟩
theorem Nx(h:fg w B M X)(hj:j<M.n):Calls prog 254 #[some B.lb,j] w λe w'=>e= .returned (.bool (ai M.n X.S j 0))/\fg w' B M {X with S:=bo M.n X.S j 0 1}/\af (oz B) w w':=Kk hj w ⟨h,aF⟩
theorem G8(h:fg w B M X)(hj:j<M.n):Calls prog 255 #[some B.lb,j] w λe w'=>e= .returned (.bool (ai M.n X.S j 10))/\fg w' B M {X with S:=bo M.n X.S j 10 11}/\af (oz B) w w':=Dp hj w ⟨h,aF⟩
theorem Kn(h:fg w B M X)(hj:j<M.n)(b:∀i,X.D i<=100000)(c:jp (X.S j 1)):Calls prog 257 #[some B.lb,j] w λe w'=>e= .returned (.bool (di M X j))/\fg w' B M (bO M X j)/\af (oz B) w w':=by
 unfold di bO;cases hm:cC X j with
 |false=>exact NC hj hm w ⟨h,aF⟩
 |true=>
  rw[ad rfl,gS];obtain⟨N,a⟩:∃N,X.S j 0=1/\N=260\/X.S j 0=2/\N=261\/X.S j 0=3/\N=262\/X.S j 0=4/\N=263\/X.S j 0=5/\N=264\/X.S j 0=11/\N=265:=by
   rcases sJ hm with h|h|h|h|h|h<;>simp[h]
  exact ND hj a (G7 h.ok h.tl b c hj a) w ⟨h,aF⟩
end
section
variable{w w':World}{B:ei}{M:cj}{X:cf}{j:Nat}
theorem Bn(h:au 263 w B M X):Calls prog 363 #[some B.lb] w λe w'=>e= .returned M.n/\w=w':=by
 have a:=h.box.cell (i:=6) rfl;clear h;go_enter func363,ntmps363;go_wp2;go_ret;exact⟨rfl,rfl⟩
theorem Jy(h:au 263 w B M X)(hj:j<M.n):Calls prog 364 #[some B.lb,j] w λe w'=>e= .returned true/\w=w':=by
 have a:=aH (Bn h);have hn:=h.Ry;obtain⟨d1,d2,d3⟩:=aI (j:=j) (n:=M.n);obtain⟨d4,d5,d6⟩:=aP (j:=j) (n:=M.n);have l1:(j:Int)<M.n:=by omega
 clear h;go_enter func364,ntmps364;go_wp2_with fail;refine gF a.o ?_;rintro w' rfl;go_wp2;go_ret;exact⟨rfl,rfl⟩
theorem nU:(∀{w:World}{B:ei}{M:cj}{X:cf}{j:Nat}(h:au 263 w B M X)(hj:j<M.n),Calls prog 361 #[some B.lb,j] w λe w'=>e= .returned (.agg #[(X.S j 0:Int),(X.S j 1:Int),(X.S j 2:Int),(X.S j 3:Int)])/\af [] w w')/\(∀{w:World}{B:ei}{M:cj}{X:cf}{j:Nat}(h:au 263 w B M X)(hj:j<M.n)(a:X.S j 0≠0)(r:Bool),cK 263 B M 358 #[some B.lb,j,r] w (.bool false) X)/\(∀{w:World}{B:ei}{M:cj}{X:cf}{j:Nat}(h:au 263 w B M X)(hj:j<M.n)(a:X.S j 0=0),cK 263 B M 358 #[some B.lb,j,true] w (.bool true) {X with S:=gh X.S j 1 1})/\(∀{w:World}{B:ei}{M:cj}{X:cf}{j:Nat}(h:au 263 w B M X)(hj:j<M.n)(a:X.S j 0=0),cK 263 B M 358 #[some B.lb,j,false] w (.bool true) {X with C:=bu M.K X.C j,S:=gh X.S j 7 0}):=by
 refine⟨?_,?_,?_,?_⟩;intro w B M X j h hj;have b:af [] w (w.alloc (.cells #[(0:Int),(0:Int),(0:Int),(0:Int)] 138)):=aF.alloc _;have h2:=h.same b;have l:=aH (Jy h2 hj);have m:=h2.box.cell (i:=6) rfl;obtain⟨k,p,q,s⟩:=h2.sp hj;rotate_left;intro w B M X j h hj a r;unfold cK;rotate_left;iterate 2
  intro w B M X j h hj a;unfold cK;rotate_left
 all_goals
  have hn:=h.Ry;obtain⟨d1,d2,d3⟩:=aI (j:=j) (n:=M.n);obtain⟨d4,d5,d6⟩:=aP (j:=j) (n:=M.n);have l1:(j:Int)<M.n:=by omega
 generalize X.S j 0=a0 at*;generalize X.S j 1=a1 at*;generalize X.S j 2=a2 at*;generalize X.S j 3=a3 at*;rotate_left;iterate 3
  obtain⟨c0,c1,c2,c3,x,y,m⟩:=h.cells;obtain⟨k,p,q,s⟩:=h.sp hj;have z:=h.row.frozen;have l:=aH (Jy h hj);rotate_left
 all_goals
  have o:= @aX prog
 focus
  clear h h2 b;go_enter func361,ntmps361
 rotate_left
 focus
  have A:(X.S j 0 !=0)=true:=by simpa using a
  generalize X.S j 0=a0 at*;have g:=aH h;have f:=aH (af.refl (dR B M.K) w);have HJ:=aH hj;clear h hj a;go_enter func358,ntmps358
 rotate_left;iterate 2
  focus
   rw[a] at k;have g:=aH h;have f:=aH (af.refl (dR B M.K) w);have HJ:=aH hj;clear h hj a;go_enter func358,ntmps358
  rotate_left
 all_goals
  go_wp2_with fail;refine gF l.o ?_;rintro w' rfl
 ·go_wp2_with fail;exact eO (v:=.agg #[a0,a1,a2,a3]) (by simp[results,results361,go_sem]) rfl ⟨rfl,aF.alloc _⟩
 ·go_wp2;go_ret;exact⟨rfl,g.o.same aD,f.o.trans aD⟩
 ·go_wp2;go_ret;have c:=g.o.SV j 1 1;exact⟨rfl,c.1,f.o.trans c.2⟩
 ·go_wp2_with fail;refine fT (uU g.o j) ?_;rintro e w1 ⟨rfl,d,b⟩;obtain⟨c0,c1,c2,c3,x,y,m⟩:=d.cells;obtain⟨k,p,q,s⟩:=d.sp HJ.o;have z:=d.row.frozen;have u:=aH d;have t:=aH (f.o.trans b);clear d b;go_wp2;go_ret;have c:=u.o.SV j 7 0;exact⟨rfl,c.1,t.o.trans c.2⟩
def uP:= @nU.1
def Lv:= @nU.2.1
def Lw:= @nU.2.2.1
def Lx:= @nU.2.2.2
theorem EK(h:au 263 w B M X)(hj:j<M.n)(d:X.S j 0≠10):cK 263 B M 359 #[some B.lb,j] w (.bool false) X:=by
 unfold cK;have hn:=h.Ry;obtain⟨d1,d2,d3⟩:=aI (j:=j) (n:=M.n);obtain⟨d4,d5,d6⟩:=aP (j:=j) (n:=M.n);have l1:(j:Int)<M.n:=by omega
 have e:=uP h hj;have p:=dF;have o:(X.S j 0 !=10)=true:=by simpa using d
 have f:=aH h;have HJ:=aH hj;have g:=aH e;generalize X.S j 0=a0 at*;clear h hj e d;all_goals
  go_enter func359,ntmps359;go_wp2_with fail;refine gF g.o ?_;rintro w1 a;have b:=f.o.same a;obtain⟨c0,c1,c2,c3,k,l,m⟩:=b.cells;have q:=b.row.frozen;have i:=aH b;have c:=aH (a.mono (S':=dR B M.K) aS);clear b a;go_wp2;go_ret;exact⟨rfl,i.o.same aE,c.o.trans aE⟩
theorem EL(h:au 263 w B M X)(hj:j<M.n)(i:X.S j 0=10)(ha:X.S j 1=0\/X.S j 1=1):cK 263 B M 359 #[some B.lb,j] w (.bool true) {X with S:=aa X.S j 0 (12 - X.S j 1)}:=by
 unfold cK;have hn:=h.Ry;obtain⟨d1,d2,d3⟩:=aI (j:=j) (n:=M.n);obtain⟨d4,d5,d6⟩:=aP (j:=j) (n:=M.n);have l1:(j:Int)<M.n:=by omega
 have e:=uP h hj;have v:=dF;rw[i] at e;have k:=aH h;have HJ:=aH hj;clear h hj;rcases ha with ha|ha;all_goals
  have f:=aH ha;rw[ha] at e;have l:=aH e;have c:=aH i;clear e ha i;go_enter func359,ntmps359;go_wp2_with fail;refine gF l.o ?_;rintro w1 a;have d:=k.o.same a;obtain⟨c0,c1,c2,c3,s,t,u⟩:=d.cells;obtain⟨p,q,x,y⟩:=d.sp HJ.o;rw[c.o] at p;rw[f.o] at q;have z:=d.row.frozen;have m:=aH d;have g:=aH (a.mono (S':=dR B M.K) aS);clear d a;have b:=m.o.same ((af.refl [] w1).alloc (.cells #[(10:Int),(X.S j 1:Int),(X.S j 2:Int),(X.S j 3:Int)] 138));rw[f.o] at b;have A:=b.cells.2.2.2.2.2.2;have r:=(b.sp HJ.o).1;rw[c.o] at r;have C:=b.row.frozen;have o:=aH b;clear b;go_wp2;go_ret;rw[f.o];exact⟨rfl,o.o.Sz j _,g.o.trans ((aF.alloc _).trans (au.Sb M.K))⟩
end
def fQ(M:cj)(X:cf)(j:Nat):cf×Bool:=
 if X.S j 0=1 then(⟨{X.C with A:=X.C.A.RF M.gf M.K.E (M.K.nd j) 0},X.D,X.S⟩,true) else
 if X.S j 0=3 then(⟨bu M.K {X.C with A:=X.C.A.RF M.gf M.K.E (M.K.nd j) 1} j,X.D,X.S⟩,true) else
 if X.S j 0=5 then(⟨bj M.K {X.C with A:=X.C.A.RF M.gf M.K.E (M.K.nd j) 0} j,X.D,X.S⟩,true) else
 if X.S j 0=8 then(⟨{X.C with A:=X.C.A.store M.fl 1},X.D.Rw 0 M.K.E false,X.S⟩,true) else
 if X.S j 0=9 then(be M X,kQ M X) else
 if X.S j 0=11 then(⟨{X.C with A:=X.C.A.RF M.gf M.K.E (M.K.nd j) 1},X.D,X.S⟩,true) else
 if X.S j 0=12 then(⟨bj M.K {X.C with A:=X.C.A.store M.fl 0} j,X.D,X.S⟩,true) else
 (⟨ay M.K X.C j,X.D,X.S⟩,a5 M.K X.C j)
def gA(pc:Int):Int:=if pc=6\/pc=9 then 10 else if pc=11\/pc=13 then 0 else pc+1
section
variable{w w':World}{B:ei}{M:cj}{X:cf}{j:Nat}
theorem Lf(pc:Int)(h:0<=pc/\pc<=20)(w:World):Calls prog 342 #[pc] w λe w'=>e= .returned (gA pc:Int)/\w=w':=by
 have b:pc=6\/pc=9\/pc=11\/pc=13\/((pc==6)=false/\(pc==9)=false/\(pc==11)=false/\(pc==13)=false):=by simp;omega
 rcases b with rfl|rfl|rfl|rfl|⟨c,d,f,g⟩
 case inr.inr.inr.inr=>
  have a:=aH (show gA pc=pc+1 by unfold gA;simp at c d f g;rw[ac aO,ac aO]);go_enter func342,ntmps342;go_wp2;go_ret;exact⟨eW a.o.symm,rfl⟩
 all_goals
  go_enter func342,ntmps342;go_wp2;go_ret;exact⟨rfl,rfl⟩
theorem Ju(h:au 258 w B M X){bx:Nat}(l:aq w bx [some B.lb] 234)(v:Int):cK 258 B M 343 #[v,some bx] w (.tuple #[]) ⟨{X.C with A:=X.C.A.store M.fl v},X.D,X.S⟩:=by
 unfold cK;obtain⟨c0,c1,c2,c3,x,z,C⟩:=h.cells;have b0:=l.cell (i:=0) rfl;have b:=aH h;have c:=aH l;have q:=aH (af.refl (dR B M.K) w);clear h l;obtain⟨w0,rfl⟩:∃W,W=w:=⟨_,rfl⟩
 go_enter func343,ntmps343;have o:=aH (b.o.free.not b.o.box b.o.ty.free);have m:Nonempty (HW (λn=>af (dR B M.K) w0 n)):=⟨⟨w0,aF⟩⟩
 have D:=zF b.o.box o.o 0 rfl;have E:=zF b.o.box o.o 4 rfl;have d:=aH (b.o.free.not c.o);have F:=zF c.o d.o 0 rfl;go_wp2_with fail;refine cO (S:=(λn=>af (dR B M.K) w0 n)) aK ?_;refine eQ (fuel:=1) [0,1,2,3,4,5,6,7,8] rfl aF.Rs ?_;refine aL 9 (fuel:=0) rfl ?_;go_wp2_with fail;refine gF (qJ (b.o.same aD) M.fl v) ?_;rintro w1 ⟨f,p⟩;have e:=af.trans (S:=dR B M.K) (a:=w0) aD p;obtain⟨c0,c1,c2,c3,x,z,C⟩:=f.cells;have G:=f.row.frozen;have g:=c.o.Rr e d.o;have b0:=g.cell (i:=0) rfl;have u:=aH g;have t:=aH f;have s:=aH e;have r:=aH (q.o.trans e);clear f p e g;go_wp2_with fail;refine ah ⟨s.o,?_⟩;refine aN ?_;clear m D E F;go_wp2;go_end0;exact⟨rfl,t.o.same aD,r.o.trans aD⟩
theorem f9:(∀{w:World}{B:ei}{M:cj}{X:cf}{j:Nat}(h:au 258 w B M X)(hj:j<M.n)(m:X.S j 0≠1/\X.S j 0≠3/\X.S j 0≠5/\X.S j 0≠8/\X.S j 0≠9/\X.S j 0≠11/\X.S j 0≠12)(H:dU M.K X.C),cK 258 B M 341 #[some B.lb,j] w (.bool (a5 M.K X.C j)) (⟨ay M.K X.C j,X.D,X.S⟩))/\(∀{w:World}{B:ei}{M:cj}{X:cf}{j:Nat}(h:au 258 w B M X)(hj:j<M.n)(m:X.S j 0=1),cK 258 B M 341 #[some B.lb,j] w (.bool (true)) (⟨{X.C with A:=X.C.A.RF M.gf M.K.E (M.K.nd j) 0},X.D,X.S⟩))/\(∀{w:World}{B:ei}{M:cj}{X:cf}{j:Nat}(h:au 258 w B M X)(hj:j<M.n)(m:X.S j 0=9),cK 258 B M 341 #[some B.lb,j] w (.bool (kQ M X)) (be M X))/\(∀{w:World}{B:ei}{M:cj}{X:cf}{j:Nat}(h:au 258 w B M X)(hj:j<M.n)(m:X.S j 0=11),cK 258 B M 341 #[some B.lb,j] w (.bool (true)) (⟨{X.C with A:=X.C.A.RF M.gf M.K.E (M.K.nd j) 1},X.D,X.S⟩))/\(∀{w:World}{B:ei}{M:cj}{X:cf}{j:Nat}(h:au 258 w B M X)(hj:j<M.n)(m:X.S j 0=3),cK 258 B M 341 #[some B.lb,j] w (.bool (true)) (⟨bu M.K {X.C with A:=X.C.A.RF M.gf M.K.E (M.K.nd j) 1} j,X.D,X.S⟩))/\(∀{w:World}{B:ei}{M:cj}{X:cf}{j:Nat}(h:au 258 w B M X)(hj:j<M.n)(m:X.S j 0=5),cK 258 B M 341 #[some B.lb,j] w (.bool (true)) (⟨bj M.K {X.C with A:=X.C.A.RF M.gf M.K.E (M.K.nd j) 0} j,X.D,X.S⟩))/\(∀{w:World}{B:ei}{M:cj}{X:cf}{j:Nat}(h:au 258 w B M X)(hj:j<M.n)(m:X.S j 0=12),cK 258 B M 341 #[some B.lb,j] w (.bool (true)) (⟨bj M.K {X.C with A:=X.C.A.store M.fl 0} j,X.D,X.S⟩))/\(∀{w:World}{B:ei}{M:cj}{X:cf}{j:Nat}(h:au 258 w B M X)(hj:j<M.n)(m:X.S j 0=8),cK 258 B M 341 #[some B.lb,j] w (.bool (true)) (⟨{X.C with A:=X.C.A.store M.fl 1},X.D.Rw 0 M.K.E false,X.S⟩)):=by
 refine⟨?_,?_,?_,?_,?_,?_,?_,?_⟩;intro w B M X j h hj m H;rotate_left;iterate 7
  intro w B M X j h hj m;rotate_left
 all_goals
  unfold cK;have hn:=h.Ry;obtain⟨d1,d2,d3⟩:=aI (j:=j) (n:=M.n);obtain⟨d4,d5,d6⟩:=aP (j:=j) (n:=M.n);have l1:(j:Int)<M.n:=by omega
  have s:af [] w (w.alloc (.cells #[some B.lb] 234)):=aF.alloc _;have l:=h.same s;obtain⟨c0,c1,c2,c3,x,z,C⟩:=l.cells;obtain⟨R,j1,j2,j3⟩:=l.sp hj;have D:=l.row.frozen;have r:=aq.new w #[some B.lb] 234;have b0:=r.cell (i:=0) rfl;have Q:= @aY prog
 have Y:(X.S j 0==1)=false:=by simp;omega
 have Z:(X.S j 0==3)=false:=by simp;omega
 have e5:(X.S j 0==5)=false:=by simp;omega
 have e8:(X.S j 0==8)=false:=by simp;omega
 have e9:(X.S j 0==9)=false:=by simp;omega
 have O:(X.S j 0==11)=false:=by simp;omega
 have P:(X.S j 0==12)=false:=by simp;omega
 have HP:=aH H;generalize X.S j 0=a0 at*;rotate_left;iterate 7
  rw[m] at R;rotate_left
 all_goals
  have p:=aH l;have q:=aH r;have L:=aH (s.mono (S':=dR B M.K) aS);have HJ:=aH hj
 clear h hj l r s m H;rotate_left;iterate 7
  clear h hj l r s m;rotate_left
 all_goals
  go_enter func341,ntmps341;go_wp2_with fail;generalize w.alloc (.cells #[some B.lb] 234)=w0 at*;refine(iI p.o.Sj HJ.o).mono ?_;rintro e T ⟨rfl,rfl⟩;go_wp2_with fail
 refine fT (my p.o HP.o j) ?_;rotate_left;refine fT (qI p.o (M.K.nd j)) ?_;rotate_left;refine fT (mz p.o) ?_;rotate_left;iterate 2
  refine fT (yK p.o (M.K.nd j)) ?_;rotate_left
 refine fT (qI p.o (M.K.nd j)) ?_;rotate_left;refine fT (Ju p.o q.o 0) ?_;rotate_left;refine fT (Ju p.o q.o 1) ?_;rotate_left;all_goals
  rintro e w1 ⟨rfl,b,o⟩;have c:=o;obtain⟨c0,c1,c2,c3,x,z,C⟩:=b.cells;have D:=b.row.frozen;have f:=q.o.Rr c (p.o.free.not q.o);have b0:=f.cell (i:=0) rfl;have d:=aH f;have g:=aH b;have v:=aH (L.o.trans c);clear b o c f
 rotate_left 4
 focus
  go_wp2_with fail;refine gF (uU g.o j) ?_;rintro w2 ⟨b,o⟩;have c:=o;obtain⟨c0,c1,c2,c3,x,z,C⟩:=b.cells;have D:=b.row.frozen;have f:=d.o.Rr c (g.o.free.not d.o);have b0:=f.cell (i:=0) rfl;have t:=aH f;have F:=aH b;have E:=aH (v.o.trans c);clear b o c f
 rotate_left;iterate 2
  focus
   go_wp2_with fail;refine gF (sn g.o j) ?_;rintro w2 ⟨b,o⟩;have c:=o;obtain⟨c0,c1,c2,c3,x,z,C⟩:=b.cells;have D:=b.row.frozen;have f:=d.o.Rr c (g.o.free.not d.o);have b0:=f.cell (i:=0) rfl;have t:=aH f;have F:=aH b;have E:=aH (v.o.trans c);clear b o c f
  rotate_left
 focus
  have J:=aH (g.o.free.not g.o.box g.o.ty.free);have G:Nonempty (HW (λI=>af (dR B M.K) w1 I)):=⟨⟨w1,aF⟩⟩
  have U:=zF g.o.box J.o 1 rfl;have V:=zF g.o.box J.o 3 rfl;have u:=aH (g.o.free.not d.o);have W:=zF d.o u.o 0 rfl;go_wp2_with fail;refine cO (S:=(λI=>af (dR B M.K) w1 I)) aK ?_;refine eQ (fuel:=2) [0,1,2,3,4,5,6,7] rfl aF.Rs ?_;refine aL 8 (fuel:=1) rfl ?_;go_wp2_with fail;refine gF (kj (g.o.same aD).Sj) ?_;rintro T rfl;go_wp2_with fail;refine ah ⟨aF.Rs,?_⟩;refine aL 9 (fuel:=0) rfl ?_;go_wp2_with fail;refine gF (qH (g.o.same aD) 0 M.K.E false) ?_;rintro w2 ⟨b,o⟩;have c:=af.trans (S:=dR B M.K) (a:=w1) aD o;obtain⟨c0,c1,c2,c3,x,z,C⟩:=b.cells;have D:=b.row.frozen;have f:=d.o.Rr c u.o;have b0:=f.cell (i:=0) rfl;have t:=aH f;have F:=aH b;have N:=aH c;have E:=aH (v.o.trans c);clear b o c f;go_wp2_with fail;refine ah ⟨N.o,?_⟩;refine aN ?_;clear G U V W
 rotate_left;all_goals
  go_wp2;go_ret
 iterate 4
  focus
   exact⟨rfl,g.o.same aD,v.o.trans aD⟩
 iterate 4
  focus
   exact⟨rfl,F.o.same aD,E.o.trans aD⟩
def Io:= @f9.1
def Ij:= @f9.2.1
def In:= @f9.2.2.1
def El:= @f9.2.2.2.1
def Ik:= @f9.2.2.2.2.1
def Il:= @f9.2.2.2.2.2.1
def Em:= @f9.2.2.2.2.2.2.1
def Im:= @f9.2.2.2.2.2.2.2
end
variable{b p:Nat}
theorem Bo{n:Nat}(hb:b<=4096)(hn:n<=32)(a:p<n):dT ⟨n,b⟩ ((p:Int)+1)=(b:Int)+2*p+1:=by
 unfold dT;dsimp only;rw[ce (x:=2*((p:Int)+1)) aO,ce (x:=(b:Int)+2*((p:Int)+1)) aO,ce aO];omega
theorem Bp{n:Nat}(hb:b<=4096)(hn:n<=32)(a:p<n):dE ⟨n,b⟩ ((p:Int)+1)=(b:Int)+2*p+2:=by
 unfold dE;dsimp only;rw[ce (x:=2*((p:Int)+1)) aO,ce aO];omega
section
variable{n b:Nat}{w w':CV}{S T U:Nat->Nat->Int}{Q:List Nat}{o:Option Nat}{A:AR}{j:Nat}{pc:Int}
theorem MC.VL{x:Nat}(h:MC n w S Q (some x))(ht:w'.tl=w.tl)(hn:w'.nx=w.nx)(d:∀k,k≠x->w'.wt k=w.wt k):MC n w' S Q (some x):=by
 obtain⟨⟨r,rfl⟩,g⟩:=h.Rv x rfl;have c:=kY.1 h.nd;exact{nd:=h.nd,lt:=h.lt,mem:=h.mem,idle:=h.idle,RG:=h.RG,Rv:=h.Rv,Tq:=λe=>by simp at e,RC:=h.RC,tl:=ht.trans h.tl,ql:=by rw[hn];exact h.ql,w1:=λk a=>by rw[d k (λe=>c.1 (e ▸ a))];exact h.w1 k a,p2:=by rw[hn];exact h.p2,p3:=λk a f=>by rw[hn,d k (λe=>by have:=h.Tn.2;subst e;omega)];exact h.p3 k a f}
theorem ma(h:MC n w U Q o)(g:∀k,k≠j->∀t,U k t=rv S k t)(f:∀k,k≠j->∀t,T k t=S k t)(d:U j 0=yJ pc)(c:pc≠16)(h4:pc=4\/pc=14->T j 1=U j 1):MC n w (rv (aa T j 0 pc)) Q o:=by
 have e:∀k,k≠j->∀t,rv (aa T j 0 pc) k t=U k t:=λk a t=>by rw[g k a t];exact yI (λt=>(aj _ _ _ _ a).trans (f k a t)) t
 refine h.congr (λk=>?_) λk a=>?_
 ·by_cases q:k=j
  ·subst q;rw[sj,ak,d]
  ·exact e k q 0
 ·by_cases q:k=j
  ·subst q;rw[Pm (by rw[ak];exact c),bZ _ _ _ _ aO];rw[d] at a;exact h4 (by have:=pU pc;omega)
  ·exact e k q 1
theorem ie(h:RI n b A S Q o)(a:∀k,k≠j->∀t,T k t=S k t)(hj:(pc=10\/pc=15\/pc=16->1<=T j 1)/\(pc=15\/pc=16->1<=T j 3)/\(11<=pc/\pc<=14->T j 3≠0)):∀k,k<n->(aa T j 0 pc k 0=10\/aa T j 0 pc k 0=15\/aa T j 0 pc k 0=16->1<=aa T j 0 pc k 1)/\(aa T j 0 pc k 0=15\/aa T j 0 pc k 0=16->1<=aa T j 0 pc k 3)/\(11<=aa T j 0 pc k 0/\aa T j 0 pc k 0<=14->aa T j 0 pc k 3≠0):=by
 intro k c;by_cases e:k=j
 ·subst e;rw[ak,bZ _ _ _ _ aO,bZ _ _ _ _ aO];exact hj
 ·rw[aj _ _ _ _ e,aj _ _ _ _ e,aj _ _ _ _ e,a k e,a k e,a k e];exact h.va k c
theorem Bd(h5:S j 0<=5)(g:pc<=5)(c:∀k,k≠j->∀t,T k t=S k t)(d:∀k,k≠j->w'.wt k=w.wt k)(f:S j 0=5->w.wt j<=0)(h:jq n w' (aa T j 0 pc)):jq n w S:=by
 refine⟨?_,λk a q=>?_⟩
 ·rcases h.1 with⟨k,a,q⟩|q
  ·have e:k≠j:=λe=>by subst e;rw[ak] at q;omega
   rw[aj _ _ _ _ e,c k e] at q;exact .inl ⟨k,a,q⟩
  ·refine .inr λk a=>?_;by_cases e:k=j
   ·subst e;omega
   ·have:=q k a;rw[aj _ _ _ _ e,c k e] at this;exact this
 ·by_cases e:k=j
  ·subst e;exact f q
  ·have:=h.2 k a (by rw[aj _ _ _ _ e,c k e];exact q);rw[d k e] at this;exact this
theorem NX(a:∀k,k<n->S k 0<6)(c:∀k,k≠j->∀t,T k t=S k t)(i:pc≠5)(f:∀k,k≠j->w'.wt k=w.wt k)(g:S j 0=5->w.wt j<=0)(h:jq n w' (aa T j 0 pc)):jq n w S:=by
 refine⟨.inr a,λk d q=>?_⟩;by_cases e:k=j
 ·subst e;exact g q
 ·have:=h.2 k d (by rw[aj _ _ _ _ e,c k e];exact q);rw[f k e] at this;exact this
theorem vT(l:pc<=6)(d:∀k,k≠j->∀t,T k t=S k t)(g:∀k,k≠j->w'.wt k=w.wt k)(i:pc=5->w'.wt j<=0)(h:iS n w' (aa T j 0 pc)):iS n w S:=by
 rcases h with⟨k,c,q⟩|⟨k,c,a,f⟩
 ·have e:k≠j:=λe=>by subst e;rw[ak] at q;omega
  rw[aj _ _ _ _ e,d k e] at q;exact .inl ⟨k,c,q⟩
 ·by_cases e:k=j
  ·subst e;rw[ak] at a;have:=i a;omega
  ·rw[aj _ _ _ _ e,d k e] at a;rw[g k e] at f;exact .inr ⟨k,c,a,f⟩
structure vu(n b:Nat)(A:AR)(S:Nat->Nat->Int)(j:Nat)(x:lu×Int):Prop where
 ri:∃Q o,RI n b x.1.A (aa x.1.S j 0 x.2) Q o
 op:ij b (1+2*n) A x.1.A
 ops:x.1.A.ops=A.ops+1
 ot:∀k,k≠j->∀t,x.1.S k t=S k t
 c3:x.1.S j 3=S j 3
 lo:jq n (cv b n x.1.A) (aa x.1.S j 0 x.2)->jq n (cv b n A) S
 hi:iS n (cv b n x.1.A) (aa x.1.S j 0 x.2)->iS n (cv b n A) S\/(S j 0=14/\0<S j 3)
 tr:(1<=S j 0/\S j 0<=5/\1<=x.2/\x.2<=6)\/(S j 0=5/\x.2=10/\iS n (cv b n A) S/\x.1.S j 2=0)\/(S j 0=6/\x.2=10/\jq n (cv b n A) S/\x.1.S j 2=1)\/(11<=S j 0/\S j 0<=14/\(x.2=0\/(11<=x.2/\x.2<=14)))\/(S j 0=15/\(x.2=10\/x.2=16))\/(S j 0=16/\x.2=0)
theorem zh{B:AR}(a:(cv b n B).wt=(cv b n A).wt):(cw (cv b n B)).wt=(cw (cv b n A)).wt:=by unfold cw;rw[a]
variable(h:RI n b A S Q o)(hf:A.Fit)(hb:1<=b)(hn:n<=32)(hr:b+(1+2*n)<=A.taken+1)(hj:j<n)
include h hf hb hn hr hj
theorem QS(q:S j 0=1):vu n b A S j (zW ⟨n,b⟩ ⟨A,S⟩ j):=by
 have e:=hf.1;have f:=hf.2.1;unfold zW;dsimp only;rw[Bo aO hn hj];have d:A.has ((b:Int)+2*j+1)=true:=a6.2 aO;obtain⟨o1,o2⟩:=cV (b:=b) (m:=1+2*n) (v:=0) hf d aO aO;obtain⟨c1,c2,c3⟩:=qw (B:=A.store ((b:Int)+2*j+1) 0) (v:=0) hj (λk=>bU hf.1 d);have g:rv S j 0=1:=by rw[sj,q];rfl
 have hm:=h.mc.early (w':=cw (cv b n (A.store ((b:Int)+2*j+1) 0))) (pc:=2) hj aO aO (λk a=>by show(cv b n _).nx k=(cv b n A).nx k;rw[c2,cG _ _ a]) (λk _=>by rw[zh c3]) c1 (λ_=>by show(cv b n _).nx j=0;rw[c2,eJ]) aO;have c:∀k,k≠j->(cv b n (A.store ((b:Int)+2*j+1) 0)).wt k=(cv b n A).wt k:=λk _=>by rw[c3]
 exact{ri:=⟨Q,o,ma hm (λk a t=>aj _ _ _ _ a) (λ_ _ _=>rfl) (by rw[ak];rfl) aO aO,ie h (λ_ _ _=>rfl) aO⟩,op:=o1,ops:=o2,ot:=λ_ _ _=>rfl,c3:=rfl,lo:=Bd aO aO (λ_ _ _=>rfl) c aO,hi:=λx=>.inl (vT aO (λ_ _ _=>rfl) c aO x),tr:=.inl (by dsimp only;omega)}
theorem QT(q:S j 0=2):vu n b A S j (zX ⟨n,b⟩ ⟨A,S⟩ j):=by
 have e:=hf.1;have f:=hf.2.1;unfold zX;dsimp only;rw[Bp aO hn hj];have d:A.has ((b:Int)+2*j+2)=true:=a6.2 aO;obtain⟨o1,o2⟩:=cV (b:=b) (m:=1+2*n) (v:=0) hf d aO aO;obtain⟨c1,c2,c3⟩:=nO (B:=A.store ((b:Int)+2*j+2) 0) (v:=0) hj (λk=>bU hf.1 d);have g:rv S j 0=2:=by rw[sj,q];rfl
 have c:∀k,k≠j->(cv b n (A.store ((b:Int)+2*j+2) 0)).wt k=(cv b n A).wt k:=λk a=>by rw[c3,cG _ _ a]
 have hm:=h.mc.early (w':=cw (cv b n (A.store ((b:Int)+2*j+2) 0))) (pc:=3) hj aO aO (λk a=>by show(cv b n _).nx k=(cv b n A).nx k;rw[c2]) (λk a=>by show(if(cv b n _).wt k=0 then(1:Int) else 0)=if(cv b n A).wt k=0 then(1:Int) else 0;rw[c k a]) c1 aO (λ_=>⟨by show(cv b n _).nx j=0;rw[c2];exact h.mc.p2 j hj g,by show(if(cv b n _).wt j=0 then(1:Int) else 0)=1;rw[c3,eJ];rfl⟩);exact{ri:=⟨Q,o,ma hm (λk a t=>aj _ _ _ _ a) (λ_ _ _=>rfl) (by rw[ak];rfl) aO aO,ie h (λ_ _ _=>rfl) aO⟩,op:=o1,ops:=o2,ot:=λ_ _ _=>rfl,c3:=rfl,lo:=Bd aO aO (λ_ _ _=>rfl) c aO,hi:=λx=>.inl (vT aO (λ_ _ _=>rfl) c aO x),tr:=.inl (by dsimp only;omega)}
theorem QV(q:S j 0=4):vu n b A S j (zZ ⟨n,b⟩ ⟨A,S⟩ j):=by
 have z:=hf.1;have C:=hf.2.1;have u:rv S j 0=4:=by rw[sj,q];rfl
 obtain⟨p,i,e,hl⟩:=h.mc.link hj u;rw[Pm aO] at e;unfold zZ;dsimp only;rw[e,Bo aO hn i];have s:A.has ((b:Int)+2*p+1)=true:=a6.2 aO;obtain⟨o1,o2⟩:=cV (b:=b) (m:=1+2*n) (v:=(j:Int)+1) hf s aO aO;obtain⟨c1,c2,c3⟩:=qw (B:=A.store ((b:Int)+2*p+1) ((j:Int)+1)) (v:=(j:Int)+1) i (λk=>bU hf.1 s);have l:∀k,k≠j->(cv b n (A.store ((b:Int)+2*p+1) ((j:Int)+1))).wt k=(cv b n A).wt k:=λk _=>by rw[c3]
 have hm:=hl (cw (cv b n (A.store ((b:Int)+2*p+1) ((j:Int)+1)))) c1 c2 (zh c3);have d:RI n b (A.store ((b:Int)+2*p+1) ((j:Int)+1)) (aa S j 0 5) Q o:=⟨ma hm (λk y t=>aj _ _ _ _ y) (λ_ _ _=>rfl) (by rw[ak];rfl) aO aO,ie h (λ_ _ _=>rfl) aO⟩
 have D:(cv b n (A.store ((b:Int)+2*p+1) ((j:Int)+1))).wt j<=0:=by
  refine Int.not_lt.1 λg=>?_;have ht:=d.told hj (ak _ _ _ _) aO;subst ht;have c:=h.mc.mem j hj (.inl u);cases Q with
  |nil=>simp at c
  |cons a r=>
   rcases kq.1 c with f|f
   ·have:=(h.mc.Tq rfl j r (by rw[f])).1;omega
   ·have h1:=h.mc.w1 j f;have:(cw (cv b n A)).wt j=if(cv b n A).wt j=0 then 1 else 0:=rfl
    rw[c3] at g;rw[this,ac aO] at h1;omega
 exact{ri:=⟨Q,o,d⟩,op:=o1,ops:=o2,ot:=λ_ _ _=>rfl,c3:=rfl,lo:=Bd aO aO (λ_ _ _=>rfl) l aO,hi:=λx=>.inl (vT aO (λ_ _ _=>rfl) l (λ_=>D) x),tr:=.inl (by dsimp only;omega)}
theorem QU(q:S j 0=3):vu n b A S j (zY ⟨n,b⟩ ⟨A,S⟩ j):=by
 have p:=hf.1;have s:=hf.2.1;have u:rv S j 0=3:=by rw[sj,q];rfl
 unfold zY;dsimp only;have i:A.has (b:Int)=true:=a6.2 aO;obtain⟨o1,o2⟩:=uI (b:=b) (m:=1+2*n) (v:=(j:Int)+1) hf i aO aO;obtain⟨c1,c2,c3⟩:=qx (n:=n) (B:=A.swap b ((j:Int)+1)) (v:=(j:Int)+1) (λk=>jX hf.1 i);obtain⟨d1,d2⟩:=h.mc.TP (w':=cw (cv b n (A.swap b ((j:Int)+1)))) hj u c1 c2 (zh c3);have a:∀k,k≠j->∀t,aa S j 1 (A.get b) k t=S k t:=λk c t=>aj _ _ _ _ c;have g:∀pc k,k≠j->∀t,aa (aa (rv S) j 1 (A.get b)) j 0 pc k t=rv S k t:=λpc k c t=>by rw[aj _ _ _ _ c,aj _ _ _ _ c]
 have d:∀k,k≠j->(cv b n (A.swap b ((j:Int)+1))).wt k=(cv b n A).wt k:=λk _=>by rw[c3]
 have h3:aa S j 1 (A.get b) j 3=S j 3:=bZ _ _ _ _ aO;by_cases z:A.get b=0
 ·have f:∀k,k<n->S k 0<6:=λk c=>Int.not_le.1 λl=>by
   have e:=h.ow c l;subst e;obtain⟨⟨r,e⟩, -⟩:=h.mc.Rv k rfl;have:=qC.1 (h.mc.tl.symm.trans z);rw[e] at this;simp at this
  rw[ad z];exact{ri:=⟨_,_,ma (d1 z) (g 10) a (by rw[ak];rfl) aO aO,ie h a aO⟩,op:=o1,ops:=o2,ot:=a,c3:=h3,lo:=NX f a aO d aO,hi:=λx=>.inl (vT aO a d aO x),tr:=.inl (by dsimp only;omega)}
 ·rw[ac z];exact{ri:=⟨_,_,ma (d2 z) (g 4) a (by rw[ak];rfl) aO (λ_=>(ak S j 1 (A.get b)).trans ((bZ _ _ _ _ aO).trans (ak _ _ _ _)).symm),ie h a aO⟩,op:=o1,ops:=o2,ot:=a,c3:=h3,lo:=Bd aO aO a d aO,hi:=λx=>.inl (vT aO a d aO x),tr:=.inl (by dsimp only;omega)}
theorem QW(q:S j 0=5):vu n b A S j (wP ⟨n,b⟩ ⟨A,S⟩ j):=by
 have C:=hf.1;have D:=hf.2.1;have G:rv S j 0=5:=by rw[sj,q];rfl
 unfold wP;dsimp only;rw[Bp aO hn hj];have F:A.has ((b:Int)+2*j+2)=true:=a6.2 aO;obtain⟨o1,o2⟩:=eE (b:=b) (m:=1+2*n) hf F aO aO;have c:cv b n (A.load ((b:Int)+2*j+2))=cv b n A:=fN λi _ _=>aw;have s:(cv b n A).wt j=A.get ((b:Int)+2*j+2):=ad hj;have l:∀k,k≠j->(cv b n (A.load ((b:Int)+2*j+2))).wt k=(cv b n A).wt k:=λk _=>by rw[c]
 generalize A.get ((b:Int)+2*j+2)=v at*;have a:∀k,k≠j->∀t,aa S j 1 v k t=S k t:=λk d t=>aj _ _ _ _ d;have e:v≠0->o=none/\MC n (cw (cv b n (A.load ((b:Int)+2*j+2)))) (aa (rv S) j 0 10) Q (some j):=λhv=>by
  obtain⟨y,z⟩:=h.mc.enter hj G (by show(if(cv b n A).wt j=0 then(1:Int) else 0)=0;rw[s,ac hv]);exact⟨y,by rw[c];exact z _ rfl rfl rfl⟩
 by_cases u:0<v
 ·rw[ad u];obtain⟨rfl,hm⟩:=e aO;have p:∀k,k≠j->∀t,aa (aa S j 1 v) j 2 0 k t=S k t:=λk d t=>by rw[aj _ _ _ _ d,aj _ _ _ _ d]
  have E:aa (aa S j 1 v) j 2 0 j 1=v:=by rw[bZ _ _ _ _ aO,ak]
  have f:RI n b (A.load ((b:Int)+2*j+2)) (aa (aa (aa S j 1 v) j 2 0) j 0 10) Q (some j):=⟨ma hm (λk d t=>aj _ _ _ _ d) p (by rw[ak];rfl) aO aO,ie h p aO⟩
  exact{ri:=⟨_,_,f⟩,op:=o1,ops:=o2,ot:=p,c3:=(bZ _ _ _ _ aO).trans (bZ _ _ _ _ aO),lo:=λx=>am x (f.TR hj (by rw[ak];omega)),hi:=λx=>am x (f.Ti hj (by rw[ak];omega)),tr:=.inr (.inl ⟨q,rfl,.inr ⟨j,hj,q,by omega⟩,ak _ _ _ _⟩)}
 ·rw[ac u];by_cases g:v<0
  ·rw[ad g];obtain⟨rfl,hm⟩:=e aO;have r:∀k,k<n->S k 0<6:=λk d=>Int.not_le.1 λB=>by have:=h.ow d B;simp at this
   exact{ri:=⟨_,_,ma hm (λk d t=>aj _ _ _ _ d) a (by rw[ak];rfl) aO aO,ie h a aO⟩,op:=o1,ops:=o2,ot:=a,c3:=bZ _ _ _ _ aO,lo:=NX r a aO l aO,hi:=λx=>.inl (vT aO a l aO x),tr:=.inl (by dsimp only;omega)}
  ·rw[ac g];have H:(cv b n (A.load ((b:Int)+2*j+2))).wt j=v:=by rw[c,s]
   exact{ri:=⟨Q,o,ma (U:=rv S) (by rw[c];exact h.mc) (λ_ _ _=>rfl) a (by rw[sj,q]) aO aO,ie h a aO⟩,op:=o1,ops:=o2,ot:=a,c3:=bZ _ _ _ _ aO,lo:=Bd aO aO a l aO,hi:=λx=>.inl (vT aO a l aO x),tr:=.inl (by dsimp only;omega)}
theorem QX(q:S j 0=6):vu n b A S j (z5 ⟨n,b⟩ ⟨A,S⟩ j):=by
 have g:=hf.1;have i:=hf.2.1;obtain rfl:=h.ow hj aO;unfold z5;dsimp only;rw[Bp aO hn hj];have f:A.has ((b:Int)+2*j+2)=true:=a6.2 aO;obtain⟨o1,o2⟩:=cV (b:=b) (m:=1+2*n) (v:=1) hf f aO aO;obtain⟨c1,c2,c3⟩:=nO (B:=A.store ((b:Int)+2*j+2) 1) (v:=1) hj (λk=>bU hf.1 f);have p:∀k,k≠j->(cv b n (A.store ((b:Int)+2*j+2) 1)).wt k=(cv b n A).wt k:=λk a=>by rw[c3,cG _ _ a]
 have d:∀k,k≠j->∀t,aa (aa S j 1 1) j 2 1 k t=S k t:=λk a t=>by rw[aj _ _ _ _ a,aj _ _ _ _ a]
 have l:aa (aa S j 1 1) j 2 1 j 1=1:=by rw[bZ _ _ _ _ aO,ak]
 have e:=h.mc.VL (w':=cw (cv b n (A.store ((b:Int)+2*j+2) 1))) c1 c2 (λk a=>by show(if(cv b n _).wt k=0 then(1:Int) else 0)=if(cv b n A).wt k=0 then(1:Int) else 0;rw[p k a]);have hm:=e.own (w':=cw (cv b n (A.store ((b:Int)+2*j+2) 1))) (S':=rv (aa (aa (aa S j 1 1) j 2 1) j 0 10)) (λk a t=>yI (λt=>(aj _ _ _ _ a).trans (d k a t)) t) (.inl (.inl (by rw[sj,ak];rfl))) rfl rfl rfl;have c:RI n b (A.store ((b:Int)+2*j+2) 1) (aa (aa (aa S j 1 1) j 2 1) j 0 10) Q (some j):=⟨hm,ie h d aO⟩
 exact{ri:=⟨_,_,c⟩,op:=o1,ops:=o2,ot:=d,c3:=(bZ _ _ _ _ aO).trans (bZ _ _ _ _ aO),lo:=λx=>am x (c.TR hj (by rw[ak];omega)),hi:=λx=>am x (c.Ti hj (by rw[ak];omega)),tr:=.inr (.inr (.inl ⟨q,rfl,h.low hj (.inl q),ak _ _ _ _⟩))}
theorem OG(q:S j 0=11\/S j 0=13):vu n b A S j (⟨A.load ((b:Int)+2*j+1),aa S j 1 (A.get ((b:Int)+2*j+1))⟩,if A.get ((b:Int)+2*j+1)=0 then(if S j 0=11 then 12 else 13) else 14):=by
 have J:=hf.1;have K:=hf.2.1;obtain rfl:=h.ow hj aO;obtain⟨⟨r,hQ⟩,f⟩:=h.mc.Rv j rfl;have u:=aH f;clear f;have M:A.has ((b:Int)+2*j+1)=true:=a6.2 aO;obtain⟨o1,o2⟩:=eE (b:=b) (m:=1+2*n) hf M aO aO;have E:(cw (cv b n A)).nx j=A.get ((b:Int)+2*j+1):=ad hj;have c:cv b n (A.load ((b:Int)+2*j+1))=cv b n A:=fN λi _ _=>aw;generalize A.get ((b:Int)+2*j+1)=v at*;have p:∀k,k≠j->∀t,aa S j 1 v k t=S k t:=λk s t=>aj _ _ _ _ s;have h3:aa S j 1 v j 3=S j 3:=bZ _ _ _ _ aO;have L:=(h.va j hj).2.2;have go:∀pc:Int,11<=pc/\pc<=14->((yJ pc=10\/yJ pc=11\/yJ pc=12)\/(yJ pc=13/\Q≠[j])\/(yJ pc=14/\∃q r,Q=j::q::r/\v=(q:Int)+1/\rv S q 0=5))->vu n b A S j (⟨A.load ((b:Int)+2*j+1),aa S j 1 v⟩,pc):=λpc B F=>by
  have HW:=aH F;clear F;have l:RI n b (A.load ((b:Int)+2*j+1)) (aa (aa S j 1 v) j 0 pc) Q (some j):=⟨by
   rw[c];refine h.mc.own (λk s t=>yI (λt=>(aj _ _ _ _ s).trans (p k s t)) t) ?_ rfl rfl rfl;rw[sj,ak,Pm (by rw[ak];omega),bZ _ _ _ _ aO,ak];rcases HW.o with w1|w1|⟨w1,a,C,D,G,H⟩
   ·exact .inl w1
   ·exact .inr (.inl w1)
   ·have d:a≠j:=λe=>by
     have:=h.mc.nd;rw[D,e] at this;exact(kY.1 this).1 aS
    exact .inr (.inr ⟨w1,a,C,D,G,by rw[yI (λt=>(aj _ _ _ _ d).trans (p a d t))];exact H⟩),ie h p aO⟩
  exact{ri:=⟨_,_,l⟩,op:=o1,ops:=o2,ot:=p,c3:=h3,lo:=λ_=>h.low hj aO,hi:=λx=>am x (l.Ti hj (by rw[ak];omega)),tr:=.inr (.inr (.inr (.inl ⟨by omega,by omega,.inr B⟩)))}
 by_cases z:v=0
 ·rw[ad z];by_cases e:S j 0=11
  ·rw[ad e];exact go 12 aO (.inl (.inr (.inr rfl)))
  ·rw[ac e];refine go 13 aO (.inr (.inl ⟨rfl,?_⟩));have N:rv S j 0=13:=by rw[sj,show S j 0=13 by omega];rfl
   rcases u.o with w1|w1|w1
   ·omega
   ·exact w1.2
   ·exact am w1.1 (by clear w1;omega)
 ·rw[ac z];have g:=h.mc.ql;rw[hQ] at g;obtain⟨a,C,e,y,I⟩:=g.second (by rw[E];exact z);exact go 14 aO (.inr (.inr ⟨rfl,a,C,by rw[hQ,e],by rw[<-E];exact y,I⟩))
theorem OA(q:S j 0=11):vu n b A S j (uQ ⟨n,b⟩ ⟨A,S⟩ j):=by
 have a:=hf.1;have c:=hf.2.1;have:=OG h hf hb hn hr hj (.inl q);rw[ad q] at this;unfold uQ;dsimp only;rw[Bo aO hn hj];exact this
theorem OC(q:S j 0=13):vu n b A S j (px ⟨n,b⟩ ⟨A,S⟩ j):=by
 have a:=hf.1;have c:=hf.2.1;have:=OG h hf hb hn hr hj (.inr q);rw[ac (show¬S j 0=11 by omega)] at this;unfold px;dsimp only;rw[Bo aO hn hj];exact this
theorem OB(q:S j 0=12):vu n b A S j (uR ⟨n,b⟩ ⟨A,S⟩ j):=by
 have p:=hf.1;have s:=hf.2.1;obtain rfl:=h.ow hj aO;obtain⟨⟨r,rfl⟩, -⟩:=h.mc.Rv j rfl;unfold uR;dsimp only;have i0:A.has (b:Int)=true:=a6.2 aO;obtain⟨o1,o2⟩:=yC (b:=b) (m:=1+2*n) (o:=(j:Int)+1) (v:=0) hf i0 aO aO;have g:=λk=>mt (A:=A) (i:=(b:Int)) (o:=(j:Int)+1) (v:=0) (j:=k) hf.1 i0;have u:=(h.va j hj).2.2;by_cases z:A.RE b ((j:Int)+1)=true
 ·have f:=(lK i0).1 z;rw[ad z];have l:r=[]:=qD h.mc.nd (h.mc.tl.symm.trans f);subst l;obtain⟨c1,c2,c3⟩:=qx (b:=b) (n:=n) (A:=A) (B:=A.Sd b ((j:Int)+1) 0) (v:=0) (λk=>by rw[g];by_cases e:k=b<;>simp[e,f]);have hm:=h.mc.TT (w':=cw (cv b n (A.Sd b ((j:Int)+1) 0))) c1 c2 (λk _=>by rw[zh c3]) (λa y e=>by simp at e);have c:RI n b (A.Sd b ((j:Int)+1) 0) (aa S j 0 0) [] none:=⟨ma hm (λk d t=>aj _ _ _ _ d) (λ_ _ _=>rfl) (by rw[ak];rfl) aO aO,ie h (λ_ _ _=>rfl) aO⟩
  refine{ri:=⟨_,_,c⟩,op:=o1,ops:=o2,ot:=λ_ _ _=>rfl,c3:=rfl,lo:=λ_=>h.low hj aO,hi:=λx=>?_,tr:=.inr (.inr (.inr (.inl ⟨by omega,by omega,.inl rfl⟩)))};rcases x with⟨k,d,x⟩|⟨k,d,x, -⟩
  ·have:=c.ow d (by dsimp only at x;omega);simp at this
  ·have:=c.mc.mem k d (.inr (by dsimp only at x;rw[sj,x];rfl));simp at this
 ·have f:A.get b≠(j:Int)+1:=λe=>z ((lK i0).2 e);rw[ac z];have c':cv b n (A.Sd b ((j:Int)+1) 0)=cv b n A:=fN λi _ _=>by rw[g,ac (λe=>f e.2)]
  have c:RI n b (A.Sd b ((j:Int)+1) 0) (aa S j 0 13) (j::r) (some j):=⟨by
   rw[c'];refine h.mc.own (λk d t=>yI (λt=>aj _ _ _ _ d) t) (.inr (.inl ⟨by rw[sj,ak];rfl,λe=>?_⟩)) rfl rfl rfl;have:=h.mc.tl;rw[e] at this;exact f this,ie h (λ_ _ _=>rfl) aO⟩
  exact{ri:=⟨_,_,c⟩,op:=o1,ops:=o2,ot:=λ_ _ _=>rfl,c3:=rfl,lo:=λ_=>h.low hj aO,hi:=λx=>am x (c.Ti hj (by rw[ak];omega)),tr:=.inr (.inr (.inr (.inl ⟨by omega,by omega,.inr (by dsimp only;omega)⟩)))}
theorem OE(q:S j 0=15):vu n b A S j (uS ⟨n,b⟩ ⟨A,S⟩ j):=by
 have D:=hf.1;have E:=hf.2.1;obtain rfl:=h.ow hj aO;obtain⟨⟨r,hQ⟩, -⟩:=h.mc.Rv j rfl;unfold uS;dsimp only;rw[Bo aO hn hj];have G:A.has ((b:Int)+2*j+1)=true:=a6.2 aO;obtain⟨o1,o2⟩:=eE (b:=b) (m:=1+2*n) hf G aO aO;have B:(cw (cv b n A)).nx j=A.get ((b:Int)+2*j+1):=ad hj;have c:cv b n (A.load ((b:Int)+2*j+1))=cv b n A:=fN λi _ _=>aw;generalize A.get ((b:Int)+2*j+1)=v at*;have g:∀k,k≠j->∀t,aa S j 2 v k t=S k t:=λk f t=>aj _ _ _ _ f;have h3:aa S j 2 v j 3=S j 3:=bZ _ _ _ _ aO;have h1:aa S j 2 v j 1=S j 1:=bZ _ _ _ _ aO;have F:=h.va j hj;have l:iS n (cv b n A) S:=.inl ⟨j,hj,.inl q⟩;have f:∀pc:Int,∀k,k≠j->∀t,rv (aa (aa S j 2 v) j 0 pc) k t=rv S k t:=λpc k f t=>yI (λt=>(aj _ _ _ _ f).trans (g k f t)) t;by_cases z:v=0
 ·rw[ad z];have d:RI n b (A.load ((b:Int)+2*j+1)) (aa (aa S j 2 v) j 0 10) Q (some j):=⟨by
   rw[c];exact h.mc.own (f 10) (.inl (.inl (by rw[sj,ak];rfl))) rfl rfl rfl,ie h g aO⟩
  exact{ri:=⟨_,_,d⟩,op:=o1,ops:=o2,ot:=g,c3:=h3,lo:=λx=>am x (d.TR hj (by rw[ak];omega)),hi:=λ_=>.inl l,tr:=.inr (.inr (.inr (.inr (.inl ⟨q,.inl rfl⟩))))}
 ·rw[ac z];have s:=h.mc.ql;rw[hQ] at s;obtain⟨a,H,e,u,C⟩:=s.second (by rw[B];exact z);have p:=h.mc.nd;rw[hQ,e] at p;have y:a≠j:=λe=>(kY.1 p).1 (by simp[e]);have d:RI n b (A.load ((b:Int)+2*j+1)) (aa (aa S j 2 v) j 0 16) Q (some j):=⟨by
   rw[c];refine h.mc.own (f 16) (.inr (.inr ⟨by rw[sj,ak];rfl,a,H,by rw[hQ,e],?_,by rw[f 16 a y];exact C⟩)) rfl rfl rfl;rw[Rn (ak _ _ _ _),bZ _ _ _ _ aO,ak,<-B];exact u,ie h g aO⟩
  exact{ri:=⟨_,_,d⟩,op:=o1,ops:=o2,ot:=g,c3:=h3,lo:=λx=>am x (d.TR hj (by rw[ak];omega)),hi:=λ_=>.inl l,tr:=.inr (.inr (.inr (.inr (.inl ⟨q,.inr rfl⟩))))}
theorem OH(q:S j 0=14\/S j 0=16)(y:Int)(H:rv S j 1=y):vu n b A S j (⟨A.store (dE ⟨n,b⟩ y) (S j 3),S⟩,0):=by
 have E:=hf.1;have F:=hf.2.1;obtain rfl:=h.ow hj aO;obtain⟨⟨r,hQ⟩,f⟩:=h.mc.Rv j rfl;have i:=aH f;clear f;have J:rv S j 0=14:=by rw[sj];rcases q with q|q<;>rw[q]<;>rfl
 have G:=h.va j hj;have hv:S j 3≠0:=by omega
 obtain⟨a,u,l,ha,h5⟩:∃a u,Q=j::a::u/\rv S j 1=(a:Int)+1/\rv S a 0=5:=by
  rcases i.o with w1|w1|w1
  ·omega
  ·omega
  ·exact w1.2
 subst l;have c:a<n:=h.mc.lt a aS;rw[<-H,ha,Bp aO hn c];have z:A.has ((b:Int)+2*a+2)=true:=a6.2 aO;obtain⟨o1,o2⟩:=cV (b:=b) (m:=1+2*n) (v:=S j 3) hf z aO aO;obtain⟨c1,c2,c3⟩:=nO (B:=A.store ((b:Int)+2*a+2) (S j 3)) (v:=S j 3) c (λk=>bU hf.1 z);have p:a≠j:=λe=>(kY.1 h.mc.nd).1 (by simp[e]);have D:(cv b n (A.store ((b:Int)+2*a+2) (S j 3))).wt a=S j 3:=by rw[c3,eJ]
 have hm:=h.mc.TT (w':=cw (cv b n (A.store ((b:Int)+2*a+2) (S j 3)))) (c1.trans h.mc.tl) c2 (λk d=>by
  show(if(cv b n _).wt k=0 then(1:Int) else 0)=if(cv b n A).wt k=0 then(1:Int) else 0
  rw[c3,cG _ _ (λe=>d (by simp[e]))]) (λx I e=>by
   obtain⟨rfl, -⟩:=sM e;exact⟨h5,by show(if(cv b n _).wt a=0 then(1:Int) else 0)=0;rw[D,ac hv]⟩)
 have g:RI n b (A.store ((b:Int)+2*a+2) (S j 3)) (aa S j 0 0) (a::u) none:=⟨ma hm (λk d t=>aj _ _ _ _ d) (λ_ _ _=>rfl) (by rw[ak];rfl) aO aO,ie h (λ_ _ _=>rfl) aO⟩
 have C:S a 0=5:=by have:=pU (S a 0);rw[sj] at h5;omega
 refine{ri:=⟨_,_,g⟩,op:=o1,ops:=o2,ot:=λ_ _ _=>rfl,c3:=rfl,lo:=λx=>?_,hi:=λx=>?_,tr:=?_}
 ·rcases q with q|q
  ·exact h.low hj aO
  ·have:=x.2 a c (by dsimp only;rw[aj _ _ _ _ p];exact C);dsimp only at this;omega
 ·rcases q with q|q
  ·rcases x with⟨k,d,x⟩|⟨k,d,x,x2⟩
   ·have:=g.ow d (by dsimp only at x;omega);simp at this
   ·dsimp only at x x2;have s:k≠j:=λe=>by subst e;rw[ak] at x;omega
    rw[aj _ _ _ _ s] at x;by_cases e:k=a
    ·subst e;exact .inr ⟨q,by omega⟩
    ·rw[c3,cG _ _ e] at x2;exact .inl (.inr ⟨k,d,x,x2⟩)
  ·exact .inl (.inl ⟨j,hj,.inr q⟩)
 ·rcases q with q|q
  ·exact .inr (.inr (.inr (.inl ⟨by omega,by omega,.inl rfl⟩)))
  ·exact .inr (.inr (.inr (.inr (.inr ⟨q,rfl⟩))))
theorem OD(q:S j 0=14):vu n b A S j (yF ⟨n,b⟩ ⟨A,S⟩ j):=OH h hf hb hn hr hj (.inl q) _ (Pm aO)
theorem OF(q:S j 0=16):vu n b A S j (yG ⟨n,b⟩ ⟨A,S⟩ j):=OH h hf hb hn hr hj (.inr q) _ (Rn q)
theorem rgo(c:S j 0≠0)(h1:S j 0≠10):vu n b A S j (eF ⟨n,b⟩ ⟨A,S⟩ j):=by
 have a:=h.pc hj;unfold oh at a;unfold eF;dsimp only;rcases(by omega:S j 0=1\/S j 0=2\/S j 0=3\/S j 0=4\/S j 0=5\/S j 0=6\/S j 0=11\/S j 0=12\/S j 0=13\/S j 0=14\/S j 0=15\/S j 0=16) with q|q|q|q|q|q|q|q|q|q|q|q
 ·rw[ad q];exact QS h hf hb hn hr hj q
 ·rw[ac aO,ad q];exact QT h hf hb hn hr hj q
 ·rw[ac aO,ac aO,ad q];exact QU h hf hb hn hr hj q
 ·iterate 3 rw[ac aO]
  rw[ad q];exact QV h hf hb hn hr hj q
 ·iterate 4 rw[ac aO]
  rw[ad q];exact QW h hf hb hn hr hj q
 ·iterate 5 rw[ac aO]
  rw[ad q];exact QX h hf hb hn hr hj q
 ·iterate 6 rw[ac aO]
  rw[ad q];exact OA h hf hb hn hr hj q
 ·iterate 7 rw[ac aO]
  rw[ad q];exact OB h hf hb hn hr hj q
 ·iterate 8 rw[ac aO]
  rw[ad q];exact OC h hf hb hn hr hj q
 ·iterate 9 rw[ac aO]
  rw[ad q];exact OD h hf hb hn hr hj q
 ·iterate 10 rw[ac aO]
  rw[ad q];exact OE h hf hb hn hr hj q
 ·iterate 11 rw[ac aO]
  rw[ad q];exact OF h hf hb hn hr hj q
end
def qd(S:Nat->Nat->Int)(j:Nat):Nat->Nat->Int:=aa (aa (aa (aa S j 0 1) j 1 0) j 2 0) j 3 0
def eR(M:eD)(R:Nat->Nat->Nat->Int)(j l:Nat):Nat->Nat->Nat->Int:=dL R (M.pl j l) (bo (M.sz (M.pl j l)) (R (M.pl j l)) (M.sl j l) 0 1)
def cY(M:eD)(R:Nat->Nat->Nat->Int)(j l:Nat)(tt v:Int):Nat->Nat->Nat->Int:=dL R (M.pl j l) (kP (M.sz (M.pl j l)) (R (M.pl j l)) (M.sl j l) tt v)
abbrev mU(B:p6)(M:eD)(f:FuncId)(args:Array Value)(w:World)(v:Value)(X:fB):Prop:=Calls prog f args w λe w'=>e= .returned v/\bQ w' B M X/\af (xy B M) w w'
section
variable{w w':World}{B:p6}{M:eD}{X:fB}{j l:Nat}
theorem zn(h:bQ w B M X)(hj:j<M.n)(hl:l<M.d j):∃r,mU B M 239 #[some (B.rl (M.pl j l)),(M.sl j l:Int)] w r {X with R:=eR M X.R j l}:=by
 have hv:=h.ok.pl j l hj hl;exact⟨_,(Ov (h.rg _ hv) (h.ok.sl j l hj hl)).mono (λe w' ⟨c,d,b⟩=>⟨c,h.TU hv (b.mono (by simp[p6.rg])) d,b.mono (λz a=>u3 hv z (by simp[p6.rg] at a;simp[a]))⟩)⟩
theorem tG(h:bQ w B M X)(hj:j<M.n)(hl:l<M.d j)(v:Int):∃r,mU B M 247 #[some (B.rl (M.pl j l)),(M.sl j l:Int),v] w r {X with R:=cY M X.R j l 11 v}:=by
 have hv:=h.ok.pl j l hj hl;exact⟨_,(ID (h.rg _ hv) (h.ok.sl j l hj hl) v).mono (λe w' ⟨c,d,b⟩=>⟨c,h.TU hv (b.mono (by simp[p6.rg])) d,b.mono (λz a=>u3 hv z (by simp[p6.rg] at a;simp[a]))⟩)⟩
theorem DF(h:bQ w B M X)(hj:j<M.n)(hl:l<M.d j)(v:Int):∃r,mU B M 248 #[some (B.rl (M.pl j l)),(M.sl j l:Int),v] w r {X with R:=cY M X.R j l 15 v}:=by
 have hv:=h.ok.pl j l hj hl;exact⟨_,(LI (h.rg _ hv) (h.ok.sl j l hj hl) v).mono (λe w' ⟨c,d,b⟩=>⟨c,h.TU hv (b.mono (by simp[p6.rg])) d,b.mono (λz a=>u3 hv z (by simp[p6.rg] at a;simp[a]))⟩)⟩
def dG(M:eD)(X:fB)(j l t:Nat):Int:=X.R (M.pl j l) (M.sl j l) t
theorem jZ(h:bQ w B M X)(hj:j<M.n)(hl:l<M.d j):Calls prog 240 #[some (B.rl (M.pl j l)),(M.sl j l:Int)] w λe w'=>e= .returned (.agg #[(dG M X j l 0:Int),(dG M X j l 1:Int),(dG M X j l 2:Int),(dG M X j l 3:Int)])/\af [] w w':=
 LK (h.rg _ (h.ok.pl j l hj hl)) (h.ok.sl j l hj hl)
def fn(M:eD)(X:fB)(j l:Nat):Bool:=oi (M.rg (M.pl j l)) (X.rg (M.pl j l)) (M.sl j l)
def bH(M:eD)(X:fB)(j l:Nat):fB:={X with A:=(jC (M.rg (M.pl j l)) (X.rg (M.pl j l)) (M.sl j l)).A,R:=dL X.R (M.pl j l) (jC (M.rg (M.pl j l)) (X.rg (M.pl j l)) (M.sl j l)).S}
theorem DH(h:bQ w B M X)(hj:j<M.n)(hl:l<M.d j)(b:oh (dG M X j l 0)):mU B M 242 #[some (B.rl (M.pl j l)),(M.sl j l:Int)] w (.bool (fn M X j l)) (bH M X j l):=by
 have hv:=h.ok.pl j l hj hl;exact(LL (h.rg _ hv) (h.ok.sl j l hj hl) b).mono (λe w' ⟨d,f,a⟩=>⟨d,h.TU hv a f,a.mono (λz c=>u3 hv z c)⟩)
theorem LW(a b c d:Int)(W:World):(Instr.field 138 (.agg #[a,b,c,d]) 2).run prog W= .ok (.int .i64 c) W:=by kernel_rfl
theorem Ko(h:bQ w B M X)(hj:j<M.n)(a:X.S j 0≠0):mU B M 233 #[some B.lb,j] w (.bool false) X:=by
 unfold mU;have b:=aH (pg h);have c3:=h.c3;obtain⟨d,e,f,g⟩:=h.sp hj;have hn:=h.Ry;obtain⟨d1,d2,d3⟩:=aI (j:=j) (n:=M.n);have l1:(j:Int)<M.n:=by omega
 have c:(X.S j 0 !=0)=true:=by simpa using a
 have H:=aH h;generalize X.S j 0=a0 at*;clear h a;go_enter func233,ntmps233;go_wp2_with fail;refine gF b.o ?_;rintro w' rfl;go_wp2;go_ret;exact⟨rfl,H.o,aF⟩
theorem Kp(h:bQ w B M X)(hj:j<M.n)(e:X.S j 0=0):mU B M 233 #[some B.lb,j] w (.bool true) {X with R:=eR M X.R j 0,S:=qd X.S j}:=by
 unfold mU;have o:=aH (pg h);have c3:=h.c3;obtain⟨i,q,s,u⟩:=h.sp hj;rw[e] at i;have hn:=h.Ry;obtain⟨d1,d2,d3⟩:=aI (j:=j) (n:=M.n);have l1:(j:Int)<M.n:=by omega
 have hd:=(h.ok.d1 j hj).1;obtain⟨cap,d,k2,z,v,x⟩:=h.Sk hj (l:=0) hd;rw[BS] at v;rw[BS,jM] at x;have A:decide (M.d j<=0)=false:=aB;have C:decide ((M.d j:Int)<=0)=false:=aB;have D:(0:Int)<M.d j:=by omega
 have E:0<M.d j:=hd;have a:af [] w (w.alloc (.cells #[some (B.rl (M.pl j 0)),(M.sl j 0:Int)] 215)):=aF.alloc _;have h2:=h.same a;obtain⟨r,f⟩:=zn h2 hj hd;have k:=aH f;have c:=aH a;have HJ:=aH hj;clear h e h2 f a;go_enter func233,ntmps233;go_wp2_with fail;refine gF o.o ?_;rintro w' rfl;go_wp2_with fail;refine gF k.o ?_;rintro w1 ⟨b,g⟩;have c3:=b.c3;obtain⟨i,q,s,u⟩:=b.sp HJ.o;have y:=b.row.frozen;have p:=aH b;have m:=aH ((c.o.mono aS).trans g);clear b g;go_wp2;go_ret;exact⟨rfl,((p.o.Sz j 1).put j (t:=1) aO 0 |>.put j (t:=2) aO 0).put j (t:=3) aO 0,(((m.o.trans (bQ.Sb M)).trans (bQ.Sb M)).trans (bQ.Sb M)).trans (bQ.Sb M)⟩
theorem bQ.loc(h:bQ w B M X){bx:Nat}{vs:List Value}(e:aq w bx vs 215)(c:∀t,t<M.n->B.lv t<bx)(a:af [bx] w w'):bQ w' B M X:=by
 have q:∀{b:Nat}{us:List Value}{U:TypeId},aq w b us U->U≠215->b∉[bx]:=λh1 f hm=>h1.differ e f (by simpa using hm);obtain⟨k,cap,h1⟩:=h.box;obtain⟨cells,h2,h3⟩:=h.Un;have d:=h.ar.Rr a (q h.ar.box aJ) (q h.ar.row aJ);exact{
  box:=⟨k,cap,h1.Rr a (q h1 aJ)⟩,Un:=⟨cells,h2.Rr a (q h2 aJ),h3⟩,TD:=λt ht=>by
   obtain⟨cs,g,i⟩:=h.TD t ht;exact⟨cs,g.Rr a (by have:=c t ht;simp;omega),i⟩,rg:=λv hv=>{box:=(h.rg v hv).box.Rr a (q (h.rg v hv).box aJ),row:=(h.rg v hv).row.Rr a (q (h.rg v hv).row aJ),ar:=d,Ry:=(h.rg v hv).Ry,tl:=(h.rg v hv).tl},row:=h.row.Rr a (q h.row aJ),ar:=d,Sg:=h.Sg,ok:=h.ok}
theorem bQ.Uq(h:bQ w B M X)(hj:j<M.n){v:Int}(e:X.S j 3=v):w.cell? (B.sb,j*4+3)=some (.int .i64 v):=by rw[<-e];exact(h.sp hj).2.2.2
theorem bQ.UH(h:bQ w B M X):∀t,t<M.n->B.lv t<w.heap.size:=λt ht=>by obtain⟨_,q,_⟩:=h.TD t ht;exact q.lt
theorem Hc(h:bQ w B M X)(hj:j<M.n):Calls prog 234 #[some B.lb,j] w λe w'=>e= .returned (.int .i64 (if X.S j 0=10 then dG M X j 0 1 else 0))/\af [] w w':=by
 have d:=rM h hj;have v:=dF;have u:=yP;have H:=aH h;have HJ:=aH hj;have hd:=(h.ok.d1 j hj).1;have m:=aH hd;have hn:=h.Ry;obtain⟨d1,d2,d3⟩:=aI (j:=j) (n:=M.n);have l1:(j:Int)<M.n:=by omega
 have y:decide (M.d j<=0)=false:=aB;have z:decide ((M.d j:Int)<=0)=false:=aB;have A:(0:Int)<M.d j:=by omega
 have C:0<M.d j:=hd;by_cases c:X.S j 0=10
 ·rw[ad c];rw[c] at d;have i:=aH d;clear h d c hj;go_enter func234,ntmps234;go_wp2_with fail;refine gF i.o ?_;rintro w1 a;have k:=H.o.same a;obtain⟨cap,o,k2,x,r,s⟩:=k.Sk HJ.o (l:=0) m.o;rw[BS] at r;rw[BS,jM] at s;have b:af [] w1 (w1.alloc (.cells #[some (B.rl (M.pl j 0)),(M.sl j 0:Int)] 215)):=aF.alloc _;have q:=aH (jZ (k.same b) HJ.o m.o);have f:=aH (a.trans b);generalize dG M X j 0 0=D at*;generalize dG M X j 0 2=E at*;generalize dG M X j 0 3=F at*;clear k a b;go_wp2_with fail;refine gF q.o ?_;rintro w2 p;have g:=aH (f.o.trans p);clear p;go_wp2;go_ret;exact⟨rfl,g.o⟩
 ·rw[ac c];have t:(X.S j 0 !=10)=true:=by simpa using c
  have i:=aH d;generalize X.S j 0=a0 at*;clear h d c hj;go_enter func234,ntmps234;go_wp2_with fail;refine gF i.o ?_;rintro w1 a;have f:=aH a;clear a;go_wp2;go_ret;exact⟨rfl,f.o⟩
theorem un:(∀{w:World}{B:p6}{M:eD}{X:fB}{j:Nat}(h:bQ w B M X)(hj:j<M.n){c:Nat}(q:X.S j 3=(c:Nat))(hl:c<M.d j)(f:dG M X j c 2=0),mU B M 243 #[some B.lb,j] w (.tuple #[]) {X with S:=aa X.S j 0 10})/\(∀{w:World}{B:p6}{M:eD}{X:fB}{j:Nat}(h:bQ w B M X)(hj:j<M.n){c:Nat}(q:X.S j 3=(c:Nat))(hl:c<M.d j)(f:dG M X j c 2≠0)(ht:c+1=M.d j),mU B M 243 #[some B.lb,j] w (.tuple #[]) {X with S:=aa X.S j 0 10})/\(∀{w:World}{B:p6}{M:eD}{X:fB}{j:Nat}(h:bQ w B M X)(hj:j<M.n){c:Nat}(q:X.S j 3=(c:Nat))(hl:c<M.d j)(f:dG M X j c 2≠0)(ht:c+1<M.d j),mU B M 243 #[some B.lb,j] w (.tuple #[]) {X with R:=eR M X.R j (c+1),S:=aa X.S j 3 ((c:Int)+1)}):=by
 refine⟨?_,?_,?_⟩;intro w B M X j h hj c q hl f;rotate_left;iterate 2
  intro w B M X j h hj c q hl f ht;rotate_left
 all_goals
  unfold mU;have fb:=LW;have c3:=h.c3;have HJ:=aH hj;have F:=aH hl;have s:=aH q;have H:=aH h;obtain⟨cap,v,k2,W,U,V⟩:=h.Sk HJ.o (l:=c) F.o;have hn:=h.Ry;obtain⟨d1,d2,d3⟩:=aI (j:=j) (n:=M.n);have l1:(j:Int)<M.n:=by omega
  have m1:decide (M.d j<=c)=false:=aB;have m2:decide ((M.d j:Int)<=((c:Nat):Int))=false:=aB;have m3:((c:Nat):Int)<M.d j:=by omega
  have m5:decide (((c:Nat):Int)<0)=false:=aB;have T:=(h.ok.d1 j hj).2
 have P:(dG M X j c 2==0)=true:=by simpa using f
 rotate_left;have P:(dG M X j c 2==0)=false:=by simpa using f
 have e2:((c:Int)==(M.d j:Int) - 1)=true:=by simp;omega
 rotate_left;have P:(dG M X j c 2==0)=false:=by simpa using f
 have e2:((c:Int)==(M.d j:Int) - 1)=false:=by simp;omega
 have u:=aH ht;have m1n:decide (M.d j<=(c+1))=false:=aB;have m2n:decide ((M.d j:Int)<=(((c+1):Nat):Int))=false:=aB;have m3n:(((c+1):Nat):Int)<M.d j:=by omega
 have m5n:decide ((((c+1):Nat):Int)<0)=false:=aB;rotate_left;all_goals
  generalize p:dG M X j c 2=b2 at*;have E:=aH p
 clear h hj hl q p f;rotate_left;iterate 2
  clear h hj hl q p f ht;rotate_left
 all_goals
  go_enter func243,ntmps243;go_wp2_with fail
  go_quiet (fail)
  have d:=H.o.same ((af.refl [] w).drew nq);have C:=aH ((af.refl (xy B M) w).drew nq);generalize w.drewN nq=w0 at*;clear k2 W U V c3;obtain⟨cap,v,k2,W,U,V⟩:=d.Sk HJ.o (l:=c) F.o;obtain⟨j0,j1,j2,L⟩:=d.sp HJ.o;rw[s.o] at L;have A:=d.UH;have Q:=aq.new w0 #[some (B.rl (M.pl j c)),(M.sl j c:Int)] 215;have o:af [] w0 (w0.alloc (.cells #[some (B.rl (M.pl j c)),(M.sl j c:Int)] 215)):=aF.alloc _;have h2:=d.same o;have k:=jZ h2 HJ.o F.o;rw[E.o] at k;have I:=aH k;have J:=aH h2;have HB:=aH Q;have G:=aH A;have Y:=aH (C.o.trans (o.mono aS));clear d Q o h2 k A;go_wp2_with fail;refine gF I.o ?_;rintro w1 g;have e:=J.o.same g;have a:=HB.o.Rr g aS;obtain⟨j0,j1,j2,L⟩:=e.sp HJ.o;rw[s.o] at L;have jz:=e.row.frozen;have HX:=aH e;have HB1:=aH a;have N:=aH (Y.o.trans (g.mono aS))
 iterate 2
  clear e g a;rotate_left
 focus
  have m:=e.put j (t:=3) aO ((c:Int)+1);have b:aq (w1.setCell (B.sb,j*4+3) (.int .i64 ((c:Int)+1))) w0.heap.size [some (B.rl (M.pl j c)),(M.sl j c:Int)] 215:=a.Rr (S:=[B.sb]) aU (by have:=a.differ e.row aJ;simp;omega);obtain⟨O,K,k21,Pi,kr1,ks1⟩:=m.Sk HJ.o (l:=(c+1)) u.o;have kv9:=b.frozen;have b0:=b.cell (i:=0) rfl;have b1:=b.cell (i:=1) rfl;have z:bQ (((w1.setCell (B.sb,j*4+3) (.int .i64 ((c:Int)+1))).setCell (w0.heap.size,0) (.pointer (some ⟨B.rl (M.pl j (c+1)),0,none⟩))).setCell (w0.heap.size,1) (.int .i64 (M.sl j (c+1)))) B M {X with S:=aa X.S j 3 ((c:Int)+1)}:=m.loc b G.o (aU.set _ _ (.inl aS));obtain⟨r,x⟩:=zn z HJ.o u.o;have y:af (xy B M) w (((w1.setCell (B.sb,j*4+3) (.int .i64 ((c:Int)+1))).setCell (w0.heap.size,0) (.pointer (some ⟨B.rl (M.pl j (c+1)),0,none⟩))).setCell (w0.heap.size,1) (.int .i64 (M.sl j (c+1)))):=((N.o.trans (bQ.Sb M)).set _ _ (.inr (by have:=C.o.size;show w.heap.size<=w0.heap.size;omega))).set _ _ (.inr (by have:=C.o.size;show w.heap.size<=w0.heap.size;omega));have D:=aH x;have Z:=aH y;clear e g a m b z x y;go_wp2_with fail;refine gF D.o ?_;rintro w6 ⟨e,g⟩;have H6:=aH (ae e (Z.o.trans g));clear e g
 rotate_left;all_goals
  go_wp2
 iterate 2
  exact eO (Ao rfl _ _ _) rfl ⟨rfl,HX.o.Sz j 10,N.o.trans (bQ.Sb M)⟩
 ·go_end0;exact⟨rfl,H6.o⟩
def Dw:= @un.1
def Dx:= @un.2.1
def Hb:= @un.2.2
end
section
variable{w w':World}{B:F4}{M:xB}{X:xC}
theorem sr(h:gv w B M X)(x:Int):Calls prog 301 #[some B.kb,x] w λe w'=>e= .returned (.bool (!(dI M X x).Sk))/\gv w' B M (dI M X x)/\af [B.kb] w w':=by
 have H:=aH h;have HI:=aH (λk=>(E1 (h.same ((af.refl [] w).drew k)) x).mono (λe w' q=>(show e= .returned (.bool (pA M x))/\∃n,w'=(w.drewN k).drewN n from⟨q.1,0,q.2.symm⟩)));have c1:=h.box.cell (i:=1) rfl;have c2:=h.box.cell (i:=2) rfl;have c3:=h.box.cell (i:=3) rfl;have l:=h.box.cell (i:=4) rfl;have t:=h.box.cell (i:=5) rfl;have u:=h.box.cell (i:=6) rfl;have y:=h.box.frozen;have hn:=h.Ry;have s:=aH h.box;by_cases hs:(!(pA M x)||decide (X.ps=M.n))=true
 ·have e:dI M X x={X with Sk:=false}:=by unfold dI;rw[ad hs]
  rw[e];have b:=aH (show∀W,af [] w W->gv (W.setCell (B.kb,3) (.bool false)) B M {X with Sk:=false}/\af [B.kb] w (W.setCell (B.kb,3) (.bool false)) fromλW a=>⟨(h.same a).Ua aU ((h.same a).box.set 3 (.bool false)),(a.mono aS).set _ _ (.inl aS)⟩);clear h e;cases hi:pA M x with
  |false=>
   rw[hi] at HI;clear hs hi;go_enter func301,ntmps301;go_wp2_with fail
   go_quiet ((go_at_call 303;exact Calls.quiet_of (HI.o _)))
   go_wp2;go_ret;exact⟨rfl,b.o _ aD⟩
  |true=>
   rw[hi] at HI hs;have c:X.ps=M.n:=by simpa using hs
   rw[c] at l;have o:((M.n:Int)==(M.n:Int))=true:=by simp
   clear hs hi c;go_enter func301,ntmps301;go_wp2_with fail
   go_quiet ((go_at_call 303;exact Calls.quiet_of (HI.o _)))
   go_wp2;go_ret;exact⟨rfl,b.o _ aD⟩
 ·have f:pA M x=true/\¬X.ps=M.n:=by simpa using hs
  obtain⟨hi,c⟩:=f;have g:1<=x/\x<=M.n:=by unfold pA at hi;simpa using hi
  obtain⟨j,rfl⟩:∃j:Nat,x=(j:Int)+1:=⟨(x - 1).toNat,by omega⟩
  have hj:j<M.n:=by omega
  have d:M.N[((j:Int)+1).toNat - 1]? =some (M.N[j]?.getD 0):=by
   rw[show((j:Int)+1).toNat - 1=j by omega,eB hj];rfl
  have m:=h.row.cell (i:=j) (v:=.int .i64 (M.N[j]?.getD 0)) (by rw[iL,eB hj];rfl);have d1:decide (M.n<=j)=false:=aB;have l1:(j:Int)<M.n:=by omega
  have o:(X.ps==(M.n:Int))=false:=by simpa using c
  rw[hi] at HI;by_cases hd:M.N[j]?.getD 0=X.node
  ·have e:dI M X ((j:Int)+1)={X with Sk:=false,fo:=(j:Int)+1}:=by unfold dI;rw[ac hs,d,BO,ad hd]
   rw[e];rw[hd] at m;have b:=aH (show∀W,af [] w W->gv ((W.setCell (B.kb,3) (.bool false)).setCell (B.kb,6) (.int .i64 ((j:Int)+1))) B M {X with Sk:=false,fo:=(j:Int)+1}/\af [B.kb] w ((W.setCell (B.kb,3) (.bool false)).setCell (B.kb,6) (.int .i64 ((j:Int)+1))) fromλW a=>⟨(h.same a).Ua (aU.set _ _ (.inl aS)) (((h.same a).box.set 3 (.bool false)).set 6 (.int .i64 ((j:Int)+1))),((a.mono aS).set _ _ (.inl aS)).set _ _ (.inl aS)⟩);generalize X.ps=p at*;generalize X.node=nd at*;have r:(nd==nd)=true:=by simp
   clear h e d hd hs hi c g;go_enter func301,ntmps301;go_wp2_with fail
   go_quiet ((go_at_call 303;exact Calls.quiet_of (HI.o _)))
   go_wp2_with fail
   go_quiet (fail)
   go_wp2;go_ret;exact⟨rfl,b.o _ aD⟩
  ·have e:dI M X ((j:Int)+1)={X with Sk:=true,last:=(j:Int)+1,ps:=wrap64 (X.ps+1)}:=by unfold dI;rw[ac hs,d,BO,ac hd]
   rw[e];have r:(M.N[j]?.getD 0==X.node)=false:=by simpa using hd
   have b:=aH (show∀W,af [] w W->gv (((W.setCell (B.kb,3) (.bool true)).setCell (B.kb,5) (.int .i64 ((j:Int)+1))).setCell (B.kb,4) (.int .i64 (wrap64 (X.ps+1)))) B M {X with Sk:=true,last:=(j:Int)+1,ps:=wrap64 (X.ps+1)}/\af [B.kb] w (((W.setCell (B.kb,3) (.bool true)).setCell (B.kb,5) (.int .i64 ((j:Int)+1))).setCell (B.kb,4) (.int .i64 (wrap64 (X.ps+1)))) fromλW a=>⟨(h.same a).Ua ((aU.set _ _ (.inl aS)).set _ _ (.inl aS)) ((((h.same a).box.set 3 (.bool true)).set 5 (.int .i64 ((j:Int)+1))).set 4 (.int .i64 (wrap64 (X.ps+1)))),(((a.mono aS).set _ _ (.inl aS)).set _ _ (.inl aS)).set _ _ (.inl aS)⟩);generalize X.ps=p at*;generalize X.node=nd at*;generalize M.N[j]?.getD 0=z at*;clear h e d hd hs hi c g;go_enter func301,ntmps301;go_wp2_with fail
   go_quiet ((go_at_call 303;exact Calls.quiet_of (HI.o _)))
   go_wp2_with fail
   go_quiet (fail)
   go_wp2;go_ret;exact⟨rfl,b.o _ aD⟩
end
theorem v6(x:Int):jp (wrap64 x):=by unfold jp wrap64;omega
theorem dP{x:Int}(h: -1000000<=x/\x<=1000000):jp x:=by unfold jp;omega
variable{A:AR}{v:Int}
theorem zv(h:∀i,jp (A.get i))(hv:jp v)(i j:Int):jp ((A.put i v).get j):=by
 have hj:=h j;unfold AR.get AR.put at*;have e:AR.has {A with ws:=A.ws.set (i.toNat - 1) v} j=A.has j:=rfl;rw[e]
 split
 ·rename_i a
  rw[ad a] at hj;rw[s7]
  split
  ·split
   ·exact hv
   ·exact dP aS
  ·exact hj
 ·exact dP aO
theorem lZ(h:∀i,jp (A.get i))(hv:jp v)(i j:Int):jp ((A.swap i v).get j):=by
 unfold AR.swap;split
 ·exact zv (A:=A.note 3 i true) h hv i j
 ·exact h j
theorem DQ(h:∀i,jp (A.get i))(i j:Int):jp ((A.load i).get j):=by
 unfold AR.load;split
 ·exact h j
 ·exact h j
theorem Hq(h:∀i,jp (A.get i))(d i j:Int):jp ((A.add i d).get j):=by
 unfold AR.add;split
 ·exact zv (A:=A.note 5 i true) h (v6 _) i j
 ·exact h j
variable{S:Nat->Nat->Int}
theorem i2(h:∀i t,jp (S i t))(hv:jp v)(a b i t:Nat):jp (aa S a b v i t):=by
 rw[ag];split
 ·exact hv
 ·exact h i t
theorem tJ(h:∀i t,jp (S i t))(hv:jp v)(n:Nat)(a b:Int)(i t:Nat):jp (bo n S a b v i t):=by
 unfold bo;split
 ·exact i2 h hv _ _ i t
 ·exact h i t
theorem rQ(n:Nat)(D:Nat->Nat)(j:Int):jp (eN n D j):=by
 unfold eN pO gY
 split
 ·split
  ·rename_i h
   have:=sJ h;unfold jp;omega
  ·exact dP aO
 ·exact dP aO
structure BT(M:mq)(k:Nat)(X:oF):Prop where
 k1:k<=100000
 Ry:M.n<=32
 dl: -1000000<=M.RN/\M.RN<=1000000
 d:∀i,X.D i<=k
 a:∀i,jp (X.A.get i)
 s:∀i t,jp (X.S i t)
variable{k:Nat}
theorem LZ{n:Nat}{D:Nat->Nat}(h:∀i,D i<=k)(j:Int)(i:Nat):Ge n D j i<=k+1:=by
 have:=h i;unfold Ge sP;split
 ·show(if i=j.toNat then D i+1 else D i)<=k+1
  split<;>omega
 ·omega
variable{M:mq}{X:oF}
theorem BT.go(h:BT M k X)(j:Nat):(∀i,(fO M X j).1.D i<=k+1)/\(∀i,jp ((fO M X j).1.A.get i))/\(∀i t,jp ((fO M X j).1.S i t))/\ -1000000<=(fO M X j).2/\(fO M X j).2<=1000000:=by
 have hd:∀i,X.D i<=k+1:=λi=>by have:=h.d i;omega
 unfold fO
 split
 ·split
  ·exact⟨hd,λi=>lZ h.a (rQ _ _ _) _ i,λi t=>i2 h.s (h.a _) _ _ i t,by simp,by simp⟩
  ·split
   ·exact⟨hd,λi=>lZ h.a (rQ _ _ _) _ i,λi t=>i2 (λa b=>i2 h.s (h.a _) _ _ a b) (dP h.dl) _ _ i t,by simp,by simp⟩
   ·exact⟨hd,λi=>lZ h.a (rQ _ _ _) _ i,λi t=>i2 (λa b=>i2 h.s (h.a _) _ _ a b) (dP aO) _ _ i t,by simp,by simp⟩
 ·split
  ·exact⟨hd,h.a,λi t=>i2 h.s (v6 _) _ _ i t,by show -1000000<=(if _ then(2:Int) else 3);split<;>omega,by show(if _ then(2:Int) else 3)<=_;split<;>omega⟩
  ·split
   ·exact⟨hd,λi=>lZ h.a (dP aO) _ i,λi t=>i2 h.s (h.a _) _ _ i t,by simp,by simp⟩
   ·split
    ·exact⟨hd,λi=>lZ h.a (h.s _ _) _ i,λi t=>i2 h.s (h.a _) _ _ i t,by show -1000000<=(if _ then(10:Int) else 5);split<;>omega,by show(if _ then(10:Int) else 5)<=_;split<;>omega⟩
    ·split
     ·refine⟨hd,λi=>?_,h.s,by show -1000000<=(if _ then(10:Int) else 5);split<;>omega,by show(if _ then(10:Int) else 5)<=_;split<;>omega⟩;show jp ((X.A.Sl M.uf M.n (X.S j 1)).get i);unfold AR.Sl;split
      ·exact DQ h.a _ i
      ·exact h.a i
     ·refine⟨λi=>LZ h.d _ i,λi=>?_,h.s,by simp,by simp⟩;show jp ((X.A.SQ M.uf M.n j).get i);unfold AR.SQ;split
      ·exact Hq h.a _ _ i
      ·exact h.a i
theorem BT.step(h:BT M k X)(c:k<100000)(j:Nat):BT M (k+1) (bO M X j):=by
 unfold bO;by_cases hm:cC X j=true
 ·rw[ad hm];obtain⟨e,f,g,l,m⟩:=h.go j;exact{k1:=c,Ry:=h.Ry,dl:=h.dl,d:=e,a:=f,s:=λi t=>i2 g (dP ⟨l,m⟩) _ _ i t}
 ·rw[ac hm];exact{h with k1:=c,d:=λi=>by have:=h.d i;omega}
def AY(M:mq):LP where
 σ:=oF
 n:=M.n
 shares:=false
 ar:=λs=>s.A
 I:=BT M
 Sr:=λs i _=>ai M.n s.S i 0
 R3:=λs i _=>{s with S:=bo M.n s.S i 0 1}
 RZ:=λs i=>ai M.n s.S i 10
 Rz:=λs i=>{s with S:=bo M.n s.S i 10 11}
 RD:=λs i=>di M s i.toNat
 Ru:=λs i=>bO M s i.toNat
 sp:=λs i t=>s.S i.toNat t
 Ta:=λs i=>if s.S i.toNat 0=10 then 1 else 0
theorem Qd(M:mq):(AY M).Ok:=by
 refine LP.Sq (λk s a h=>?_) (λk s j r a h hj _=>?_) (λk s j a h hj=>?_) (λk s j a h hj=>?_)
 ·exact{h with k1:=a,d:=λi=>by have:=h.d i;omega}
 ·exact{h with k1:=a,d:=λi=>by have:=h.d i;show s.D i<=_;omega,s:=λi t=>tJ h.s (dP aO) _ _ _ i t}
 ·exact{h with k1:=a,d:=λi=>by have:=h.d i;show s.D i<=_;omega,s:=λi t=>tJ h.s (dP aO) _ _ _ i t}
 ·exact BT.step (X:=s) h a (j:Int).toNat
section
variable{w:World}{B:Jh}{M:mq}
def vP(M:mq)(B:Jh):lm (AY M) where
 T:=175
 q:=.pointer (some ⟨B.lb,0,none⟩)
 Z:=oz B
 ab:=B.ab
 wb:=B.wb
 At:=λw s=>fg w B M s
 Sa:=254
 Sp:=.pointer (some ⟨B.lb,0,none⟩)
 RB:=255
 RM:=.pointer (some ⟨B.lb,0,none⟩)
 RR:=257
 R6:=.pointer (some ⟨B.lb,0,none⟩)
 RO:=256
 R5:=.pointer (some ⟨B.lb,0,none⟩)
 RL:=0
 R0:=.nilIface
theorem cX{p:LP}{i:Int}(h:dO p i):∃j:Nat,i=j/\j<p.n:=by
 obtain⟨h1,h2⟩:=h;exact⟨i.toNat,by omega,by omega⟩
theorem Do(hn:M.n<=32):(vP M B).Ok where
 Ry:=hn
 sh:=rfl
 Sw:=λF w=>by kernel_rfl
 RW:=λF w=>by kernel_rfl
 RK:=λF w=>by kernel_rfl
 R7:=λF w=>by kernel_rfl
 SC:=λargs w=>by kernel_rfl
 R2:=λargs w=>by kernel_rfl
 Se:=λargs w=>by kernel_rfl
 R9:=λargs w=>by kernel_rfl
 St:=λw k s i b ha hi=>by
  obtain⟨j,rfl,hj⟩:=cX hi;exact(Nx ha hj).mono (λe w' ⟨h1,h2,h3⟩=>⟨h1,h2,h3.mono (by simp[vP,oz])⟩)
 RV:=λw k s i b ha hi=>by
  obtain⟨j,rfl,hj⟩:=cX hi;exact(G8 ha hj).mono (λe w' ⟨h1,h2,h3⟩=>⟨h1,h2,h3.mono (by simp[vP,oz])⟩)
 Sc:=λw k s i b ha hi=>by
  obtain⟨j,rfl,hj⟩:=cX hi;have a:BT M k s:=b;exact Kn ha hj (λi=>dv (a.d i) a.k1) (a.s _ _)
 R8:=λw s i ha hi=>by
  obtain⟨j,rfl,hj⟩:=cX hi;exact Km ha hj
 ar:=λw s ha=>fg.ar ha
 free:=λw s ha=>fg.free ha
 stay:=λw w' s S ha c hs d=>fg.stays ha c hs d
end
section
variable{w w':World}{B:ei}{M:cj}{X:cf}{j:Nat}
theorem eq:(∀{w:World}{B:ei}{M:cj}{X:cf}{j:Nat}(h:au 263 w B M X)(hj:j<M.n),cK 263 B M 365 #[some B.lb,(1:Int),(M.K.nd j:Int)] w (.int .i64 2) ⟨{X.C with A:=X.C.A.RF M.gf M.K.E (M.K.nd j) 0},X.D,X.S⟩)/\(∀{w:World}{B:ei}{M:cj}{X:cf}{j:Nat}(h:au 263 w B M X)(hj:j<M.n){pc:Int}(n1:pc≠1)(H:pc≠2),cK 263 B M 365 #[some B.lb,pc,(M.K.nd j:Int)] w (.int .i64 0) ⟨{X.C with A:=X.C.A.RF M.gf M.K.E (M.K.nd j) 1},X.D,X.S⟩)/\(∀{w:World}{B:ei}{M:cj}{X:cf}{j:Nat}(h:au 263 w B M X)(hj:j<M.n)(o:kQ M X=false),cK 263 B M 367 #[some B.lb,(6:Int)] w (.int .i64 6) (be M X))/\(∀{w:World}{B:ei}{M:cj}{X:cf}{j:Nat}(h:au 263 w B M X)(hj:j<M.n)(o:kQ M X=false),cK 263 B M 367 #[some B.lb,(9:Int)] w (.int .i64 9) (be M X))/\(∀{w:World}{B:ei}{M:cj}{X:cf}{j:Nat}(h:au 263 w B M X)(hj:j<M.n)(o:kQ M X=true),cK 263 B M 367 #[some B.lb,(6:Int)] w (.int .i64 8) (be M X))/\(∀{w:World}{B:ei}{M:cj}{X:cf}{j:Nat}(h:au 263 w B M X)(hj:j<M.n)(hv:X.C.A.get M.fl=0),cK 263 B M 365 #[some B.lb,(2:Int),(M.K.nd j:Int)] w (.int .i64 10) ⟨{X.C with A:=X.C.A.load M.fl},X.D,X.S⟩)/\(∀{w:World}{B:ei}{M:cj}{X:cf}{j:Nat}(h:au 263 w B M X)(hj:j<M.n)(hv:X.C.A.get M.fl≠0),cK 263 B M 365 #[some B.lb,(2:Int),(M.K.nd j:Int)] w (.int .i64 2) ⟨{X.C with A:=X.C.A.load M.fl},X.D,X.S⟩)/\(∀{w:World}{B:ei}{M:cj}{X:cf}{j:Nat}(h:au 263 w B M X)(hj:j<M.n),cK 263 B M 367 #[some B.lb,(5:Int)] w (.int .i64 6) ⟨{X.C with A:=X.C.A.store M.fl 0},X.D.Rw 0 M.K.E false,X.S⟩)/\(∀{w:World}{B:ei}{M:cj}{X:cf}{j:Nat}(h:au 263 w B M X)(hj:j<M.n),cK 263 B M 367 #[some B.lb,(8:Int)] w (.int .i64 9) ⟨{X.C with A:=X.C.A.store M.fl 1},X.D.Rw 0 M.K.E true,X.S⟩)/\(∀{w:World}{B:ei}{M:cj}{X:cf}{j:Nat}(h:au 263 w B M X)(hj:j<M.n)(o:kQ M X=true)(C:(be M X).D.clear=true),cK 263 B M 367 #[some B.lb,(9:Int)] w (.int .i64 10) (be M X))/\(∀{w:World}{B:ei}{M:cj}{X:cf}{j:Nat}(h:au 263 w B M X)(hj:j<M.n)(o:kQ M X=true)(C:(be M X).D.clear=false),cK 263 B M 367 #[some B.lb,(9:Int)] w (.int .i64 5) (be M X)):=by
 refine⟨?_,?_,?_,?_,?_,?_,?_,?_,?_,?_,?_⟩;intro w B M X j h hj;rotate_left;intro w B M X j h hj pc n1 H;rotate_left;iterate 3
  intro w B M X j h hj o;rotate_left
 iterate 2
  intro w B M X j h hj hv;rotate_left
 iterate 2
  intro w B M X j h hj;rotate_left
 iterate 2
  intro w B M X j h hj o C;rotate_left
 all_goals
  unfold cK;have hn:=h.Ry;obtain⟨d1,d2,d3⟩:=aI (j:=j) (n:=M.n);obtain⟨d4,d5,d6⟩:=aP (j:=j) (n:=M.n);have l1:(j:Int)<M.n:=by omega
  obtain⟨c0,c1,c2,c3,q,r,s⟩:=h.cells;obtain⟨R,T,U,V⟩:=h.sp hj;have t:=h.row.frozen
 rotate_left;have N:(pc==1)=false:=by simpa using n1
 have Q:(pc==2)=false:=by simpa using H
 rotate_left;iterate 3
  have z:=aH o;rotate_left
 have N:(X.C.A.get M.fl==0)=true:=by simpa using hv
 rotate_left;have N:(X.C.A.get M.fl==0)=false:=by simpa using hv
 rotate_left;rotate_left 2;iterate 2
  have z:=aH o;have L:=aH C;rotate_left
 all_goals
  have d:=aH h;have O:=aH (af.refl (dR B M.K) w);have HJ:=aH hj
 focus
  clear h hj;go_enter func365,ntmps365
 rotate_left
 focus
  clear h hj n1 H;go_enter func365,ntmps365
 rotate_left;iterate 3
  focus
   clear h hj o;go_enter func367,ntmps367
  rotate_left
 iterate 2
  focus
   clear h hj hv;go_enter func365,ntmps365;have m:=aH (d.o.free.not d.o.box d.o.ty.free);have g:Nonempty (HW (λi=>af (dR B M.K) w i)):=⟨⟨w,aF⟩⟩
   have E:=zF d.o.box m.o 0 rfl;have F:=zF d.o.box m.o 4 rfl
  rotate_left
 iterate 2
  focus
   clear h hj;go_enter func367,ntmps367;have m:=aH (d.o.free.not d.o.box d.o.ty.free);have g:Nonempty (HW (λi=>af (dR B M.K) w i)):=⟨⟨w,aF⟩⟩
   have E:=zF d.o.box m.o 0 rfl;have F:=zF d.o.box m.o 4 rfl
  rotate_left
 iterate 2
  focus
   clear h hj o C;go_enter func367,ntmps367
  rotate_left
 all_goals
  go_wp2_with fail
 refine fT (qI d.o (M.K.nd j)) ?_;rotate_left;refine fT (yK d.o (M.K.nd j)) ?_;rotate_left;iterate 2
  refine fT ((show cK _ B M _ _ _ (.bool false) (be M X) from z.o ▸ mz d.o)) ?_;rotate_left
 refine fT ((show cK _ B M _ _ _ (.bool true) (be M X) from z.o ▸ mz d.o)) ?_;rotate_left;iterate 2
  focus
   refine cO (S:=(λi=>af (dR B M.K) w i)) aK ?_;refine eQ (fuel:=2) [0,1,2,3,4,5,6,7] rfl aF.Rs ?_;refine aL 8 (fuel:=1) rfl ?_;go_wp2_with fail;refine fT (uV (d.o.same aD) M.fl) ?_
  rotate_left
 focus
  refine cO (S:=(λi=>af (dR B M.K) w i)) aK ?_;refine eQ (fuel:=1) [0,1,2,3,4,5,6,7] rfl aF.Rs ?_;refine aL 8 (fuel:=0) rfl ?_;go_wp2_with fail;refine fT (qJ (d.o.same aD) M.fl 0) ?_
 rotate_left
 focus
  refine cO (S:=(λi=>af (dR B M.K) w i)) aK ?_;refine eQ (fuel:=1) [0,1,2,3,4,5,6,7] rfl aF.Rs ?_;refine aL 8 (fuel:=0) rfl ?_;go_wp2_with fail;refine fT (qJ (d.o.same aD) M.fl 1) ?_
 rotate_left;iterate 2
  refine fT ((show cK _ B M _ _ _ (.bool true) (be M X) from z.o ▸ mz d.o)) ?_;rotate_left
 all_goals
  rintro e w1 ⟨rfl,b,l⟩
 iterate 5
  have c:=l;rotate_left
 iterate 4
  focus
   have c:=af.trans (S:=dR B M.K) (a:=w) aD l
  rotate_left
 iterate 2
  have c:=l;rotate_left
 all_goals
  obtain⟨c0,c1,c2,c3,q,r,s⟩:=b.cells;have t:=b.row.frozen;have f:=aH b
 rotate_left 5;iterate 4
  have v:=aH c;rotate_left
 rotate_left 2;all_goals
  have p:=aH (O.o.trans c);clear b l c
 rotate_left 5;iterate 2
  focus
   go_wp2_with fail;refine ah ⟨v.o,?_⟩;refine eQ (fuel:=0) [9] rfl v.o ?_;refine aN ?_;clear g E F
  rotate_left
 focus
  go_wp2_with fail;refine ah ⟨v.o,?_⟩;refine aN ?_;clear g E F;have m:=aH (f.o.free.not f.o.box f.o.ty.free);have g:Nonempty (HW (λi=>af (dR B M.K) w1 i)):=⟨⟨w1,aF⟩⟩
  have I:=zF f.o.box m.o 1 rfl;have J:=zF f.o.box m.o 3 rfl;go_wp2_with fail;refine cO (S:=(λi=>af (dR B M.K) w1 i)) aK ?_;refine eQ (fuel:=2) [0,1,2,3,4,5,6,7] rfl aF.Rs ?_;refine aL 8 (fuel:=1) rfl ?_;go_wp2_with fail;refine gF (kj (f.o.same aD).Sj) ?_;rintro P rfl;go_wp2_with fail;refine ah ⟨aF.Rs,?_⟩;refine aL 9 (fuel:=0) rfl ?_;go_wp2_with fail;refine gF (qH (f.o.same aD) 0 M.K.E false) ?_;rintro w2 ⟨b,l⟩;have c:=af.trans (S:=dR B M.K) (a:=w1) aD l;obtain⟨c0,c1,c2,c3,q,r,s⟩:=b.cells;have t:=b.row.frozen;have x:=aH b;have G:=aH c;have u:=aH (p.o.trans c);clear b l c;go_wp2_with fail;refine ah ⟨G.o,?_⟩;refine aN ?_;clear g I J
 rotate_left
 focus
  go_wp2_with fail;refine ah ⟨v.o,?_⟩;refine aN ?_;clear g E F;have m:=aH (f.o.free.not f.o.box f.o.ty.free);have g:Nonempty (HW (λi=>af (dR B M.K) w1 i)):=⟨⟨w1,aF⟩⟩
  have I:=zF f.o.box m.o 1 rfl;have J:=zF f.o.box m.o 3 rfl;go_wp2_with fail;refine cO (S:=(λi=>af (dR B M.K) w1 i)) aK ?_;refine eQ (fuel:=2) [0,1,2,3,4,5,6,7] rfl aF.Rs ?_;refine aL 8 (fuel:=1) rfl ?_;go_wp2_with fail;refine gF (kj (f.o.same aD).Sj) ?_;rintro P rfl;go_wp2_with fail;refine ah ⟨aF.Rs,?_⟩;refine aL 9 (fuel:=0) rfl ?_;go_wp2_with fail;refine gF (qH (f.o.same aD) 0 M.K.E true) ?_;rintro w2 ⟨b,l⟩;have c:=af.trans (S:=dR B M.K) (a:=w1) aD l;obtain⟨c0,c1,c2,c3,q,r,s⟩:=b.cells;have t:=b.row.frozen;have x:=aH b;have G:=aH c;have u:=aH (p.o.trans c);clear b l c;go_wp2_with fail;refine ah ⟨G.o,?_⟩;refine aN ?_;clear g I J
 rotate_left
 focus
  go_wp2_with fail;refine gF ((show cK _ B M _ _ _ (.bool true) (be M X) from L.o ▸ z6 f.o)) ?_;rintro w2 ⟨b,l⟩;have c:=l;obtain⟨c0,c1,c2,c3,q,r,s⟩:=b.cells;have t:=b.row.frozen;have x:=aH b;have u:=aH (p.o.trans c);clear b l c
 rotate_left
 focus
  go_wp2_with fail;refine gF ((show cK _ B M _ _ _ (.bool false) (be M X) from L.o ▸ z6 f.o)) ?_;rintro w2 ⟨b,l⟩;have c:=l;obtain⟨c0,c1,c2,c3,q,r,s⟩:=b.cells;have t:=b.row.frozen;have x:=aH b;have u:=aH (p.o.trans c);clear b l c
 rotate_left;all_goals
  go_wp2;go_ret
 iterate 7
  focus
   exact⟨rfl,f.o.same aD,p.o.trans aD⟩
 iterate 4
  focus
   exact⟨rfl,x.o.same aD,u.o.trans aD⟩
def QK:= @eq.1
def QM:= @eq.2.1
def Og:= @eq.2.2.1
def Oi:= @eq.2.2.2.1
def Oh:= @eq.2.2.2.2.1
def Om:= @eq.2.2.2.2.2.1
def On:= @eq.2.2.2.2.2.2.1
def QI:= @eq.2.2.2.2.2.2.2.1
def QJ:= @eq.2.2.2.2.2.2.2.2.1
def Oj:= @eq.2.2.2.2.2.2.2.2.2.1
def Ol:= @eq.2.2.2.2.2.2.2.2.2.2
theorem gP:(∀{w:World}{B:ei}{M:cj}{X:cf}{j:Nat}(h:au 263 w B M X)(hj:j<M.n){pc:Int}(C:pc≠5)(D:pc≠6)(F:pc≠8)(G:pc≠9),cK 263 B M 367 #[some B.lb,pc] w (.int .i64 5) X)/\(∀{w:World}{B:ei}{M:cj}{X:cf}{j:Nat}(h:au 263 w B M X)(hj:j<M.n)(g:a5 M.K X.C j=true)(f:dU M.K X.C),cK 263 B M 366 #[some B.lb,j,(7:Int)] w (.int .i64 8) ⟨ay M.K X.C j,X.D,X.S⟩)/\(∀{w:World}{B:ei}{M:cj}{X:cf}{j:Nat}(h:au 263 w B M X)(hj:j<M.n)(g:a5 M.K X.C j=true)(f:dU M.K X.C),cK 263 B M 366 #[some B.lb,j,(13:Int)] w (.int .i64 0) ⟨ay M.K X.C j,X.D,X.S⟩)/\(∀{w:World}{B:ei}{M:cj}{X:cf}{j:Nat}(h:au 263 w B M X)(hj:j<M.n)(g:a5 M.K X.C j=false)(f:dU M.K X.C),cK 263 B M 366 #[some B.lb,j,(7:Int)] w (.int .i64 7) ⟨ay M.K X.C j,X.D,X.S⟩)/\(∀{w:World}{B:ei}{M:cj}{X:cf}{j:Nat}(h:au 263 w B M X)(hj:j<M.n)(g:a5 M.K X.C j=false)(f:dU M.K X.C),cK 263 B M 366 #[some B.lb,j,(13:Int)] w (.int .i64 13) ⟨ay M.K X.C j,X.D,X.S⟩)/\(∀{w:World}{B:ei}{M:cj}{X:cf}{j:Nat}(h:au 263 w B M X)(hj:j<M.n){pc:Int}(E:pc≠7)(i:pc≠12)(l:pc≠13){x:cf}{r:Int}(dA:∀W,af [] w W->cK 263 B M 367 #[some B.lb,pc] W (.int .i64 r) x),cK 263 B M 366 #[some B.lb,j,pc] w (.int .i64 r) x)/\(∀{w:World}{B:ei}{M:cj}{X:cf}{j:Nat}(h:au 263 w B M X)(hj:j<M.n),cK 263 B M 366 #[some B.lb,j,(12:Int)] w (.int .i64 13) ⟨bj M.K {X.C with A:=X.C.A.store M.fl 0} j,X.D,X.S⟩):=by
 refine⟨?_,?_,?_,?_,?_,?_,?_⟩;intro w B M X j h hj pc C D F G;rotate_left;iterate 4
  intro w B M X j h hj g f;rotate_left
 intro w B M X j h hj pc E i l x r dA;rotate_left;intro w B M X j h hj;rotate_left;all_goals
  unfold cK;have hn:=h.Ry;obtain⟨d1,d2,d3⟩:=aI (j:=j) (n:=M.n);obtain⟨d4,d5,d6⟩:=aP (j:=j) (n:=M.n);have l1:(j:Int)<M.n:=by omega
  obtain⟨c0,c1,c2,c3,q,s,t⟩:=h.cells;obtain⟨j0,j1,j2,j3⟩:=h.sp hj;have u:=h.row.frozen
 have U:(pc==5)=false:=by simpa using C
 have V:(pc==6)=false:=by simpa using D
 have Z:(pc==8)=false:=by simpa using F
 have e9:(pc==9)=false:=by simpa using G
 rotate_left;iterate 4
  have J:=aH g;have HP:=aH f;rotate_left
 have Y:(pc==7)=false:=by simpa using E
 have P:(pc==12)=false:=by simpa using i
 have Q:(pc==13)=false:=by simpa using l
 have v:=aH dA;rotate_left;rotate_left;all_goals
  have e:=aH h;have m:=aH (af.refl (dR B M.K) w);have HJ:=aH hj
 focus
  clear h hj C D F G;go_enter func367,ntmps367
 rotate_left;iterate 2
  focus
   clear h hj g f;go_enter func366,ntmps366;go_wp2_with fail;refine gF ((show cK _ B M _ _ _ (.bool true) ⟨ay M.K X.C j,X.D,X.S⟩ from J.o ▸ my e.o HP.o j)) ?_;rintro w1 ⟨b,d⟩;have c:=d;obtain⟨c0,c1,c2,c3,q,s,t⟩:=b.cells;have u:=b.row.frozen;have p:=aH b;have o:=aH (m.o.trans c);clear b d c
  rotate_left
 iterate 2
  focus
   clear h hj g f;go_enter func366,ntmps366;go_wp2_with fail;refine gF ((show cK _ B M _ _ _ (.bool false) ⟨ay M.K X.C j,X.D,X.S⟩ from J.o ▸ my e.o HP.o j)) ?_;rintro w1 ⟨b,d⟩;have c:=d;obtain⟨c0,c1,c2,c3,q,s,t⟩:=b.cells;have u:=b.row.frozen;have p:=aH b;have o:=aH (m.o.trans c);clear b d c
  rotate_left
 focus
  clear h hj E i l dA;go_enter func366,ntmps366;go_wp2_with fail;refine gF (v.o _ aF) ?_;rintro w1 ⟨b,d⟩;have c:=d;obtain⟨c0,c1,c2,c3,q,s,t⟩:=b.cells;have u:=b.row.frozen;have p:=aH b;have o:=aH (m.o.trans c);clear b d c
 rotate_left
 focus
  clear h hj;go_enter func366,ntmps366;have I:=aH (e.o.free.not e.o.box e.o.ty.free);have z:Nonempty (HW (λH=>af (dR B M.K) w H)):=⟨⟨w,aF⟩⟩
  have R:=zF e.o.box I.o 0 rfl;have T:=zF e.o.box I.o 4 rfl;go_wp2_with fail;refine cO (S:=(λH=>af (dR B M.K) w H)) aK ?_;refine eQ (fuel:=1) [0,1,2,3,4,5,6,7] rfl aF.Rs ?_;refine aL 8 (fuel:=0) rfl ?_;go_wp2_with fail;refine gF (qJ (e.o.same aD) M.fl 0) ?_;rintro w1 ⟨b,d⟩;have c:=af.trans (S:=dR B M.K) (a:=w) aD d;obtain⟨c0,c1,c2,c3,q,s,t⟩:=b.cells;have u:=b.row.frozen;have p:=aH b;have N:=aH c;have o:=aH (m.o.trans c);clear b d c;go_wp2_with fail;refine ah ⟨N.o,?_⟩;refine aN ?_;clear z R T;go_wp2_with fail;refine gF (sn p.o j) ?_;rintro w2 ⟨b,d⟩;have c:=d;obtain⟨c0,c1,c2,c3,q,s,t⟩:=b.cells;have u:=b.row.frozen;have O:=aH b;have L:=aH (o.o.trans c);clear b d c
 rotate_left;all_goals
  go_wp2;go_ret
 ·exact⟨rfl,e.o.same aD,m.o.trans aD⟩
 iterate 5
  focus
   exact⟨rfl,p.o.same aD,o.o.trans aD⟩
 ·exact⟨rfl,O.o.same aD,L.o.trans aD⟩
def QH:= @gP.1
def Ot:= @gP.2.1
def LG:= @gP.2.2.1
def Ou:= @gP.2.2.2.1
def LH:= @gP.2.2.2.2.1
def EP:= @gP.2.2.2.2.2.1
def Oq:= @gP.2.2.2.2.2.2
end
def bi(X:cf)(j:Nat):Bool:= !(X.S j 0==0)&& !(X.S j 0==10)
def cD(M:cj)(X:cf)(j:Nat):cf:=
 if bi X j=false then X else
 if X.S j 0=2 then⟨{X.C with A:=X.C.A.load M.fl},X.D,aa X.S j 0 (if X.C.A.get M.fl=0 then 10 else 3)⟩ else
 if(fQ M X j).2 then{(fQ M X j).1 with S:=aa (fQ M X j).1.S j 0 (gA (X.S j 0))} else(fQ M X j).1
def cR(M:cj)(X:cf)(j:Nat):Bool:=
 if bi X j=false then false else
 if X.S j 0=2 then decide (X.C.A.get M.fl=0) else(fQ M X j).2&&(gA (X.S j 0)==10||gA (X.S j 0)==0)
section
variable{w w':World}{B:ei}{M:cj}{X:cf}{j:Nat}
theorem sq(h:bi X j=false):X.S j 0=0\/X.S j 0=10:=by
 unfold bi at h;by_cases h1:X.S j 0=0
 ·exact .inl h1
 ·by_cases h2:X.S j 0=10
  ·exact .inr h2
  ·simp[h1,h2] at h
theorem jV:(∀{w:World}{B:ei}{M:cj}{X:cf}{j:Nat}(h:au 258 w B M X)(hj:j<M.n)(l:bi X j=false),cK 258 B M 338 #[some B.lb,j] w (.bool false) X)/\(∀{w:World}{B:ei}{M:cj}{X:cf}{j:Nat}(h:au 258 w B M X)(hj:j<M.n)(m:X.S j 0=2)(hv:X.C.A.get M.fl=0),cK 258 B M 338 #[some B.lb,j] w (.bool true) ⟨{X.C with A:=X.C.A.load M.fl},X.D,aa X.S j 0 10⟩)/\(∀{w:World}{B:ei}{M:cj}{X:cf}{j:Nat}(h:au 258 w B M X)(hj:j<M.n)(m:X.S j 0=2)(hv:X.C.A.get M.fl≠0),cK 258 B M 338 #[some B.lb,j] w (.bool false) ⟨{X.C with A:=X.C.A.load M.fl},X.D,aa X.S j 0 3⟩)/\(∀{w:World}{B:ei}{M:cj}{X:cf}{j:Nat}(h:au 258 w B M X)(hj:j<M.n){q:Int}(l:X.S j 0=q)(O:(q==0)=false)(P:(q==10)=false)(h2:(q==2)=false)(v:0<=q/\q<=20){s:cf}(dA:∀W,af [] w W->cK 258 B M 341 #[some B.lb,j] W (.bool true) s),cK 258 B M 338 #[some B.lb,j] w (.bool (gA q==10||gA q==0)) {s with S:=aa s.S j 0 (gA q)})/\(∀{w:World}{B:ei}{M:cj}{X:cf}{j:Nat}(h:au 258 w B M X)(hj:j<M.n){q:Int}(l:X.S j 0=q)(O:(q==0)=false)(P:(q==10)=false)(h2:(q==2)=false)(v:0<=q/\q<=20){s:cf}(dA:∀W,af [] w W->cK 258 B M 341 #[some B.lb,j] W (.bool false) s),cK 258 B M 338 #[some B.lb,j] w (.bool false) s):=by
 refine⟨?_,?_,?_,?_,?_⟩;intro w B M X j h hj l;rotate_left;iterate 2
  intro w B M X j h hj m hv;rotate_left
 iterate 2
  intro w B M X j h hj q l O P h2 v s dA;rotate_left
 all_goals
  unfold cK;have hn:=h.Ry;obtain⟨d1,d2,d3⟩:=aI (j:=j) (n:=M.n);obtain⟨d4,d5,d6⟩:=aP (j:=j) (n:=M.n);have l1:(j:Int)<M.n:=by omega
  have f:=uD h hj;have fd:=dF
 have v:=sq l;generalize X.S j 0=q at*;generalize X.S j 1=s1 at*;generalize X.S j 2=s2 at*;generalize X.S j 3=s3 at*;rotate_left;have e1:(X.C.A.get M.fl==0)=true:=by simpa using hv
 rw[m] at f;have g:=aH m;rotate_left;have e1:(X.C.A.get M.fl==0)=false:=by simpa using hv
 rw[m] at f;have g:=aH m;rotate_left;iterate 2
  rw[l] at f;have HQ:=aH v;have HQN:=aH (show True from trivial);have F:=aH dA;have H:=aH l;generalize X.S j 1=s1 at f;generalize X.S j 2=s2 at f;generalize X.S j 3=s3 at f;rotate_left
 all_goals
  have I:=aH f;have E:=aH h;have HJ:=aH hj
 ·clear h hj f l;rcases v with rfl|rfl;all_goals
   go_enter func338,ntmps338;go_wp2_with fail;refine gF I.o ?_;rintro w1 b;have d:=aH b;clear b;go_wp2;go_ret;exact⟨rfl,E.o.same (d.o.trans aE),(d.o.trans aE).mono aS⟩
 ·clear h hj f m hv;go_enter func338,ntmps338;go_wp2_with fail;refine gF I.o ?_;rintro w1 b;have c:=E.o.same b;obtain⟨c0,c1,c2,c3,J,L,N⟩:=c.cells;obtain⟨x,T,U,V⟩:=c.sp HJ.o;rw[g.o] at x;have z:=c.row.frozen;have e:=aH c;have o:=aH (b.mono (S':=dR B M.K) aS);have d:=aH b;clear c b;have G:=aH (e.o.free.not e.o.box e.o.ty.free);have u:Nonempty (HW (λC=>af (dR B M.K) w1 C)):=⟨⟨w1,aF⟩⟩
  have Z:=zF e.o.box G.o 0 rfl;have z4:=zF e.o.box G.o 4 rfl;go_wp2_with fail;refine aG (λC=>af (dR B M.K) w1 C) ?_;refine eQ (fuel:=4) [0,1,2,3,4,5,6,7,8,9,10] rfl aF.Rs ?_;refine aL 11 (fuel:=3) rfl ?_;go_wp2_with fail;refine gF (uV (e.o.same aD) M.fl) ?_;rintro w2 ⟨c,i⟩;have t:=af.trans (S:=dR B M.K) (a:=w1) aD i;have Y:=c.Vo HJ.o g.o;have z:=c.row.frozen;have r:=aH c;have D:=aH t;have p:=aH (o.o.trans t);clear c i t;go_wp2_with fail;refine ah ⟨D.o,?_⟩;refine eQ (fuel:=0) [12,13,14] rfl D.o ?_;refine aN ?_;clear u Z z4;go_wp2;go_ret;exact⟨rfl,(r.o.same aD).Sz j 10,p.o.trans (af.trans aD (au.Sb M.K))⟩
 ·clear h hj f m hv;go_enter func338,ntmps338;go_wp2_with fail;refine gF I.o ?_;rintro w1 b;have c:=E.o.same b;obtain⟨c0,c1,c2,c3,J,L,N⟩:=c.cells;obtain⟨x,T,U,V⟩:=c.sp HJ.o;rw[g.o] at x;have z:=c.row.frozen;have e:=aH c;have o:=aH (b.mono (S':=dR B M.K) aS);have d:=aH b;clear c b;have G:=aH (e.o.free.not e.o.box e.o.ty.free);have u:Nonempty (HW (λC=>af (dR B M.K) w1 C)):=⟨⟨w1,aF⟩⟩
  have Z:=zF e.o.box G.o 0 rfl;have z4:=zF e.o.box G.o 4 rfl;go_wp2_with fail;refine aG (λC=>af (dR B M.K) w1 C) ?_;refine eQ (fuel:=4) [0,1,2,3,4,5,6,7,8,9,10] rfl aF.Rs ?_;refine aL 11 (fuel:=3) rfl ?_;go_wp2_with fail;refine gF (uV (e.o.same aD) M.fl) ?_;rintro w2 ⟨c,i⟩;have t:=af.trans (S:=dR B M.K) (a:=w1) aD i;have Y:=c.Vo HJ.o g.o;have z:=c.row.frozen;have r:=aH c;have D:=aH t;have p:=aH (o.o.trans t);clear c i t;go_wp2_with fail;refine ah ⟨D.o,?_⟩;refine eQ (fuel:=0) [12,13,14] rfl D.o ?_;refine aN ?_;clear u Z z4;go_wp2;go_ret;exact⟨rfl,(r.o.same aD).Sz j 3,p.o.trans (af.trans aD (au.Sb M.K))⟩
 ·clear h hj f l v dA;go_enter func338,ntmps338;go_wp2_with fail;refine gF I.o ?_;rintro w1 b;have c:=E.o.same b;obtain⟨c0,c1,c2,c3,J,L,N⟩:=c.cells;obtain⟨x,T,U,V⟩:=c.sp HJ.o;rw[H.o] at x;have z:=c.row.frozen;have e:=aH c;have o:=aH (b.mono (S':=dR B M.K) aS);have d:=aH b;clear c b;go_wp2_with fail
  go_quiet (fail)
  go_wp2_with fail;refine gF (F.o _ (by repeat (first|exact d.o|exact aF|apply af.Rs|apply af.drew))) ?_;rintro w2 ⟨c,i⟩;obtain⟨c0,c1,c2,c3,J,L,N⟩:=c.cells;obtain⟨Y,q1,q2,q3⟩:=c.sp HJ.o;have z:=c.row.frozen;have r:=aH c;have p:=aH (o.o.trans (af.trans (S:=dR B M.K) (a:=w1) aD i));clear c i;have Q:=r.o.Sz j (gA q);have R:=aH Q;clear Q;go_wp2_with fail;refine gF (Lf _ HQ.o _) ?_;rintro w9 rfl;cases hr:(gA q==10)
  all_goals
   have HR:=aH hr;go_wp2;go_ret;exact⟨by rw[HR.o];rfl,R.o,p.o.trans (au.Sb M.K)⟩
 ·clear h hj f l v dA;go_enter func338,ntmps338;go_wp2_with fail;refine gF I.o ?_;rintro w1 b;have c:=E.o.same b;obtain⟨c0,c1,c2,c3,J,L,N⟩:=c.cells;obtain⟨x,T,U,V⟩:=c.sp HJ.o;rw[H.o] at x;have z:=c.row.frozen;have e:=aH c;have o:=aH (b.mono (S':=dR B M.K) aS);have d:=aH b;clear c b;go_wp2_with fail
  go_quiet (fail)
  go_wp2_with fail;refine gF (F.o _ (by repeat (first|exact d.o|exact aF|apply af.Rs|apply af.drew))) ?_;rintro w2 ⟨c,i⟩;obtain⟨c0,c1,c2,c3,J,L,N⟩:=c.cells;obtain⟨Y,q1,q2,q3⟩:=c.sp HJ.o;have z:=c.row.frozen;have r:=aH c;have p:=aH (o.o.trans (af.trans (S:=dR B M.K) (a:=w1) aD i));clear c i;go_wp2;go_ret;exact⟨rfl,r.o.same aD,p.o.trans aD⟩
def Lh:= @jV.1
def It:= @jV.2.1
def Iu:= @jV.2.2.1
def Lj:= @jV.2.2.2.1
def Li:= @jV.2.2.2.2
end
def qk(M:cj)(X:cf)(j:Nat):cf×Int:=
 if X.S j 0=1 then(⟨{X.C with A:=X.C.A.load M.fl},X.D,X.S⟩,if X.C.A.get M.fl=0 then 2 else 1) else
 if X.S j 0=2 then(⟨{X.C with A:=X.C.A.RF M.gf M.K.E (M.K.nd j) 0},X.D,X.S⟩,3) else
 if X.S j 0=3 then(⟨{X.C with A:=X.C.A.load M.fl},X.D,X.S⟩,if X.C.A.get M.fl=0 then 10 else 4) else
 if X.S j 0=4 then(⟨{X.C with A:=X.C.A.RF M.gf M.K.E (M.K.nd j) 1},X.D,X.S⟩,1) else(⟨{X.C with A:=X.C.A.RF M.gf M.K.E (M.K.nd j) 1},X.D,X.S⟩,0)
def sY(M:cj)(X:cf)(j:Nat):cf×Int:=
 if X.S j 0=5 then(⟨bu M.K {X.C with A:=X.C.A.add M.fl 1} j,X.D,X.S⟩,7) else
 if X.S j 0=7 then(if a5 M.K X.C j then(⟨ay M.K X.C j,X.D.Rw 0 M.K.E false,X.S⟩,9) else(⟨ay M.K X.C j,X.D,X.S⟩,7)) else
 if X.S j 0=9 then(be M X,if kQ M X then 10 else 9) else
 if X.S j 0=12 then(⟨bj M.K {X.C with A:=X.C.A.add M.fl (-1)} j,X.D,X.S⟩,13) else
 if X.S j 0=13 then(⟨ay M.K X.C j,X.D,X.S⟩,if a5 M.K X.C j then 0 else 13) else(X,X.S j 0)
def jK(M:cj)(X:cf)(j:Nat):cf×Int:=if X.S j 1=1 then qk M X j else sY M X j
def iK(M:cj)(X:cf)(j:Nat):cf:=if bi X j=false then X else{(jK M X j).1 with S:=aa (jK M X j).1.S j 0 (jK M X j).2}
def jE(M:cj)(X:cf)(j:Nat):Bool:=if bi X j=false then false else(jK M X j).2==10||(jK M X j).2==0
section
variable{w w':World}{B:ei}{M:cj}{X:cf}{j:Nat}
theorem Ag(h:au 265 w B M X):cK 265 B M 378 #[some B.lb] w (.bool (X.C.A.get M.fl==0)) ⟨{X.C with A:=X.C.A.load M.fl},X.D,X.S⟩:=by
 unfold cK;obtain⟨c0,c1,c2,c3,p,q,r⟩:=h.cells;have b:=aH h;have m:=aH (af.refl (dR B M.K) w);clear h;go_enter func378,ntmps378;have i:=aH (b.o.free.not b.o.box b.o.ty.free);have e:Nonempty (HW (λf=>af (dR B M.K) w f)):=⟨⟨w,aF⟩⟩
 have s:=zF b.o.box i.o 0 rfl;have t:=zF b.o.box i.o 4 rfl;go_wp2_with fail;refine cO (S:=(λf=>af (dR B M.K) w f)) aK ?_;refine eQ (fuel:=3) [0,1,2,3,4,5,6,7] rfl aF.Rs ?_;refine aL 8 (fuel:=2) rfl ?_;go_wp2_with fail;refine gF (uV (b.o.same aD) M.fl) ?_;rintro w1 ⟨c,l⟩;have d:=af.trans (S:=dR B M.K) (a:=w) aD l;obtain⟨c0,c1,c2,c3,p,q,r⟩:=c.cells;have u:=c.row.frozen;have o:=aH c;have g:=aH d;have n:=aH (m.o.trans d);clear c l d;go_wp2_with fail;refine ah ⟨g.o,?_⟩;refine eQ (fuel:=0) [9,10] rfl g.o ?_;refine aN ?_;clear e s t;go_wp2;go_ret;exact⟨rfl,o.o.same aD,n.o.trans aD⟩
theorem dC:(∀{w:World}{B:ei}{M:cj}{X:cf}{j:Nat}(h:au 265 w B M X)(hj:j<M.n),cK 265 B M 376 #[some B.lb,j,(5:Int)] w (.int .i64 7) ⟨bu M.K {X.C with A:=X.C.A.add M.fl 1} j,X.D,X.S⟩)/\(∀{w:World}{B:ei}{M:cj}{X:cf}{j:Nat}(h:au 265 w B M X)(hj:j<M.n),cK 265 B M 376 #[some B.lb,j,(12:Int)] w (.int .i64 13) ⟨bj M.K {X.C with A:=X.C.A.add M.fl (-1)} j,X.D,X.S⟩)/\(∀{w:World}{B:ei}{M:cj}{X:cf}{j:Nat}(h:au 265 w B M X)(hj:j<M.n)(i:a5 M.K X.C j=true)(q:dU M.K X.C),cK 265 B M 376 #[some B.lb,j,(7:Int)] w (.int .i64 9) ⟨ay M.K X.C j,X.D.Rw 0 M.K.E false,X.S⟩)/\(∀{w:World}{B:ei}{M:cj}{X:cf}{j:Nat}(h:au 265 w B M X)(hj:j<M.n)(i:a5 M.K X.C j=true)(q:dU M.K X.C),cK 265 B M 376 #[some B.lb,j,(13:Int)] w (.int .i64 0) ⟨ay M.K X.C j,X.D,X.S⟩)/\(∀{w:World}{B:ei}{M:cj}{X:cf}{j:Nat}(h:au 265 w B M X)(hj:j<M.n)(i:a5 M.K X.C j=false)(q:dU M.K X.C),cK 265 B M 376 #[some B.lb,j,(7:Int)] w (.int .i64 7) ⟨ay M.K X.C j,X.D,X.S⟩)/\(∀{w:World}{B:ei}{M:cj}{X:cf}{j:Nat}(h:au 265 w B M X)(hj:j<M.n)(hv:X.C.A.get M.fl=0),cK 265 B M 377 #[some B.lb,j,(1:Int)] w (.int .i64 2) ⟨{X.C with A:=X.C.A.load M.fl},X.D,X.S⟩)/\(∀{w:World}{B:ei}{M:cj}{X:cf}{j:Nat}(h:au 265 w B M X)(hj:j<M.n)(hv:X.C.A.get M.fl=0),cK 265 B M 377 #[some B.lb,j,(3:Int)] w (.int .i64 10) ⟨{X.C with A:=X.C.A.load M.fl},X.D,X.S⟩)/\(∀{w:World}{B:ei}{M:cj}{X:cf}{j:Nat}(h:au 265 w B M X)(hj:j<M.n)(hv:X.C.A.get M.fl≠0),cK 265 B M 377 #[some B.lb,j,(1:Int)] w (.int .i64 1) ⟨{X.C with A:=X.C.A.load M.fl},X.D,X.S⟩)/\(∀{w:World}{B:ei}{M:cj}{X:cf}{j:Nat}(h:au 265 w B M X)(hj:j<M.n)(hv:X.C.A.get M.fl≠0),cK 265 B M 377 #[some B.lb,j,(3:Int)] w (.int .i64 4) ⟨{X.C with A:=X.C.A.load M.fl},X.D,X.S⟩)/\(∀{w:World}{B:ei}{M:cj}{X:cf}{j:Nat}(h:au 265 w B M X)(hj:j<M.n),cK 265 B M 377 #[some B.lb,j,(2:Int)] w (.int .i64 3) ⟨{X.C with A:=X.C.A.RF M.gf M.K.E (M.K.nd j) 0},X.D,X.S⟩)/\(∀{w:World}{B:ei}{M:cj}{X:cf}{j:Nat}(h:au 265 w B M X)(hj:j<M.n),cK 265 B M 377 #[some B.lb,j,(4:Int)] w (.int .i64 1) ⟨{X.C with A:=X.C.A.RF M.gf M.K.E (M.K.nd j) 1},X.D,X.S⟩)/\(∀{w:World}{B:ei}{M:cj}{X:cf}{j:Nat}(h:au 265 w B M X)(hj:j<M.n){pc:Int}(n1:pc≠1)(D:pc≠2)(E:pc≠3)(F:pc≠4),cK 265 B M 377 #[some B.lb,j,pc] w (.int .i64 0) ⟨{X.C with A:=X.C.A.RF M.gf M.K.E (M.K.nd j) 1},X.D,X.S⟩)/\(∀{w:World}{B:ei}{M:cj}{X:cf}{j:Nat}(h:au 265 w B M X)(hj:j<M.n)(i:kQ M X=true),cK 265 B M 376 #[some B.lb,j,(9:Int)] w (.int .i64 10) (be M X))/\(∀{w:World}{B:ei}{M:cj}{X:cf}{j:Nat}(h:au 265 w B M X)(hj:j<M.n)(i:kQ M X=false),cK 265 B M 376 #[some B.lb,j,(9:Int)] w (.int .i64 9) (be M X)):=by
 refine⟨?_,?_,?_,?_,?_,?_,?_,?_,?_,?_,?_,?_,?_,?_⟩;iterate 2
  intro w B M X j h hj;rotate_left
 iterate 3
  intro w B M X j h hj i q;rotate_left
 iterate 4
  intro w B M X j h hj hv;rotate_left
 iterate 2
  intro w B M X j h hj;rotate_left
 intro w B M X j h hj pc n1 D E F;rotate_left;iterate 2
  intro w B M X j h hj i;rotate_left
 all_goals
  unfold cK;have hn:=h.Ry;obtain⟨d1,d2,d3⟩:=aI (j:=j) (n:=M.n);obtain⟨d4,d5,d6⟩:=aP (j:=j) (n:=M.n);have l1:(j:Int)<M.n:=by omega
  obtain⟨c0,c1,c2,c3,s,t,u⟩:=h.cells;obtain⟨U,V,W,Y⟩:=h.sp hj;have v:=h.row.frozen
 rotate_left 2;iterate 3
  have p:=aH i;have HP:=aH q;rotate_left
 iterate 2
  have HV:=aH (show(X.C.A.get M.fl==0)=true by simpa using hv);rotate_left
 iterate 2
  have HV:=aH (show(X.C.A.get M.fl==0)=false by simpa using hv);rotate_left
 rotate_left 2;have P:(pc==1)=false:=by simpa using n1
 have Q:(pc==2)=false:=by simpa using D
 have R:(pc==3)=false:=by simpa using E
 have T:(pc==4)=false:=by simpa using F
 rotate_left;iterate 2
  have p:=aH i;rotate_left
 all_goals
  have b:=aH h;have J:=aH (af.refl (dR B M.K) w);have HJ:=aH hj
 iterate 2
  focus
   clear h hj;go_enter func376,ntmps376;have o:=aH (b.o.free.not b.o.box b.o.ty.free);have l:Nonempty (HW (λm=>af (dR B M.K) w m)):=⟨⟨w,aF⟩⟩
   have H:=zF b.o.box o.o 0 rfl;have I:=zF b.o.box o.o 4 rfl
  rotate_left
 iterate 3
  focus
   clear h hj i q;go_enter func376,ntmps376
  rotate_left
 iterate 4
  focus
   clear h hj hv;go_enter func377,ntmps377
  rotate_left
 iterate 2
  focus
   clear h hj;go_enter func377,ntmps377
  rotate_left
 focus
  clear h hj n1 D E F;go_enter func377,ntmps377
 rotate_left;iterate 2
  focus
   clear h hj i;go_enter func376,ntmps376
  rotate_left
 all_goals
  go_wp2_with fail
 focus
  refine cO (S:=(λm=>af (dR B M.K) w m)) aK ?_;refine eQ (fuel:=1) [0,1,2,3,4,5,6,7] rfl aF.Rs ?_;refine aL 8 (fuel:=0) rfl ?_;go_wp2_with fail;refine fT (JA (b.o.same aD) M.fl 1) ?_
 rotate_left
 focus
  refine cO (S:=(λm=>af (dR B M.K) w m)) aK ?_;refine eQ (fuel:=1) [0,1,2,3,4,5,6,7] rfl aF.Rs ?_;refine aL 8 (fuel:=0) rfl ?_;go_wp2_with fail;refine fT (JA (b.o.same aD) M.fl (-1)) ?_
 rotate_left;iterate 2
  refine fT ((show cK _ B M _ _ _ (.bool true) ⟨ay M.K X.C j,X.D,X.S⟩ from p.o ▸ my b.o HP.o j)) ?_;rotate_left
 refine fT ((show cK _ B M _ _ _ (.bool false) ⟨ay M.K X.C j,X.D,X.S⟩ from p.o ▸ my b.o HP.o j)) ?_;rotate_left;iterate 2
  focus
   refine(iI b.o.Sj HJ.o).mono ?_;rintro e x ⟨rfl,rfl⟩;go_wp2_with fail;refine fT ((show cK _ B M _ _ _ (.bool true) ⟨{X.C with A:=X.C.A.load M.fl},X.D,X.S⟩ from HV.o ▸ Ag b.o)) ?_
  rotate_left
 iterate 2
  focus
   refine(iI b.o.Sj HJ.o).mono ?_;rintro e x ⟨rfl,rfl⟩;go_wp2_with fail;refine fT ((show cK _ B M _ _ _ (.bool false) ⟨{X.C with A:=X.C.A.load M.fl},X.D,X.S⟩ from HV.o ▸ Ag b.o)) ?_
  rotate_left
 focus
  refine(iI b.o.Sj HJ.o).mono ?_;rintro e x ⟨rfl,rfl⟩;go_wp2_with fail;refine fT (qI b.o (M.K.nd j)) ?_
 rotate_left;iterate 2
  focus
   refine(iI b.o.Sj HJ.o).mono ?_;rintro e x ⟨rfl,rfl⟩;go_wp2_with fail;refine fT (yK b.o (M.K.nd j)) ?_
  rotate_left
 refine fT ((show cK _ B M _ _ _ (.bool true) (be M X) from p.o ▸ mz b.o)) ?_;rotate_left;refine fT ((show cK _ B M _ _ _ (.bool false) (be M X) from p.o ▸ mz b.o)) ?_;rotate_left;all_goals
  rintro e w1 ⟨rfl,c,f⟩
 iterate 2
  focus
   have d:=af.trans (S:=dR B M.K) (a:=w) aD f
  rotate_left
 iterate 12
  have d:=f;rotate_left
 all_goals
  obtain⟨c0,c1,c2,c3,s,t,u⟩:=c.cells;have v:=c.row.frozen;have g:=aH c
 iterate 2
  have G:=aH d;rotate_left
 rotate_left 12;all_goals
  have r:=aH (J.o.trans d);clear c f d
 focus
  go_wp2_with fail;refine ah ⟨G.o,?_⟩;refine aN ?_;clear l H I;go_wp2_with fail;refine gF (uU g.o j) ?_;rintro w2 ⟨c,f⟩;have d:=f;obtain⟨c0,c1,c2,c3,s,t,u⟩:=c.cells;have v:=c.row.frozen;have C:=aH c;have z:=aH (r.o.trans d);clear c f d
 rotate_left
 focus
  go_wp2_with fail;refine ah ⟨G.o,?_⟩;refine aN ?_;clear l H I;go_wp2_with fail;refine gF (sn g.o j) ?_;rintro w2 ⟨c,f⟩;have d:=f;obtain⟨c0,c1,c2,c3,s,t,u⟩:=c.cells;have v:=c.row.frozen;have C:=aH c;have z:=aH (r.o.trans d);clear c f d
 rotate_left
 focus
  have o:=aH (g.o.free.not g.o.box g.o.ty.free);have l:Nonempty (HW (λm=>af (dR B M.K) w1 m)):=⟨⟨w1,aF⟩⟩
  have N:=zF g.o.box o.o 1 rfl;have O:=zF g.o.box o.o 3 rfl;go_wp2_with fail;refine cO (S:=(λm=>af (dR B M.K) w1 m)) aK ?_;refine eQ (fuel:=2) [0,1,2,3,4,5,6,7] rfl aF.Rs ?_;refine aL 8 (fuel:=1) rfl ?_;go_wp2_with fail;refine gF (kj (g.o.same aD).Sj) ?_;rintro x rfl;go_wp2_with fail;refine ah ⟨aF.Rs,?_⟩;refine aL 9 (fuel:=0) rfl ?_;go_wp2_with fail;refine gF (qH (g.o.same aD) 0 M.K.E false) ?_;rintro w2 ⟨c,f⟩;have d:=af.trans (S:=dR B M.K) (a:=w1) aD f;obtain⟨c0,c1,c2,c3,s,t,u⟩:=c.cells;have v:=c.row.frozen;have C:=aH c;have L:=aH d;have z:=aH (r.o.trans d);clear c f d;go_wp2_with fail;refine ah ⟨L.o,?_⟩;refine aN ?_;clear l N O
 rotate_left;rotate_left 11;all_goals
  go_wp2;go_ret
 iterate 3
  focus
   exact⟨rfl,C.o.same aD,z.o.trans aD⟩
 iterate 11
  focus
   exact⟨rfl,g.o.same aD,r.o.trans aD⟩
def Q7:= @dC.1
def O1:= @dC.2.1
def O2:= @dC.2.2.1
def Mp:= @dC.2.2.2.1
def O3:= @dC.2.2.2.2.1
def OY:= @dC.2.2.2.2.2.1
def O0:= @dC.2.2.2.2.2.2.1
def OX:= @dC.2.2.2.2.2.2.2.1
def OZ:= @dC.2.2.2.2.2.2.2.2.1
def Q4:= @dC.2.2.2.2.2.2.2.2.2.1
def Q5:= @dC.2.2.2.2.2.2.2.2.2.2.1
def Q3:= @dC.2.2.2.2.2.2.2.2.2.2.2.1
def O4:= @dC.2.2.2.2.2.2.2.2.2.2.2.2.1
def O5:= @dC.2.2.2.2.2.2.2.2.2.2.2.2.2
theorem jW:(∀{w:World}{B:ei}{M:cj}{X:cf}{j:Nat}(h:au 265 w B M X)(hj:j<M.n)(u:a5 M.K X.C j=false)(c:dU M.K X.C),cK 265 B M 376 #[some B.lb,j,(13:Int)] w (.int .i64 13) ⟨ay M.K X.C j,X.D,X.S⟩)/\(∀{w:World}{B:ei}{M:cj}{X:cf}{j:Nat}(h:au 265 w B M X)(hj:j<M.n){pc:Int}(I:pc≠5)(J:pc≠7)(K:pc≠9)(G:pc≠12)(H:pc≠13),cK 265 B M 376 #[some B.lb,j,pc] w (.int .i64 pc) X)/\(∀{w:World}{B:ei}{M:cj}{X:cf}{j:Nat}(h:au 265 w B M X)(hj:j<M.n)(c:bi X j=false),cK 265 B M 373 #[some B.lb,j] w (.bool false) X)/\(∀{w:World}{B:ei}{M:cj}{X:cf}{j:Nat}(h:au 265 w B M X)(hj:j<M.n){q:Int}(c:X.S j 0=q)(o:(q==0)=false)(p:(q==10)=false)(ha:(X.S j 1==1)=true){f:cf}{r:Int}(dA:∀W,af [] w W->cK 265 B M 377 #[some B.lb,j,q] W (.int .i64 r) f),cK 265 B M 373 #[some B.lb,j] w (.bool (r==10||r==0)) {f with S:=aa f.S j 0 r})/\(∀{w:World}{B:ei}{M:cj}{X:cf}{j:Nat}(h:au 265 w B M X)(hj:j<M.n){q:Int}(c:X.S j 0=q)(o:(q==0)=false)(p:(q==10)=false)(ha:(X.S j 1==1)=false){f:cf}{r:Int}(dA:∀W,af [] w W->cK 265 B M 376 #[some B.lb,j,q] W (.int .i64 r) f),cK 265 B M 373 #[some B.lb,j] w (.bool (r==10||r==0)) {f with S:=aa f.S j 0 r}):=by
 refine⟨?_,?_,?_,?_,?_⟩;intro w B M X j h hj u c;rotate_left;intro w B M X j h hj pc I J K G H;rotate_left;intro w B M X j h hj c;rotate_left;iterate 2
  intro w B M X j h hj q c o p ha f r dA;rotate_left
 all_goals
  unfold cK;have hn:=h.Ry;obtain⟨d1,d2,d3⟩:=aI (j:=j) (n:=M.n);obtain⟨d4,d5,d6⟩:=aP (j:=j) (n:=M.n);have l1:(j:Int)<M.n:=by omega
 obtain⟨c0,c1,c2,c3,x,y,z⟩:=h.cells;obtain⟨j0,j1,j2,j3⟩:=h.sp hj;have F:=h.row.frozen;have D:=aH u;have HP:=aH c;rotate_left;obtain⟨c0,c1,c2,c3,x,y,z⟩:=h.cells;obtain⟨j0,j1,j2,j3⟩:=h.sp hj;have F:=h.row.frozen;have e5:(pc==5)=false:=by simpa using I
 have e7:(pc==7)=false:=by simpa using J
 have e9:(pc==9)=false:=by simpa using K
 have U:(pc==12)=false:=by simpa using G
 have V:(pc==13)=false:=by simpa using H
 rotate_left;have d:=sH h hj;have Y:=dF;have Z:=sq c;generalize X.S j 0=q at*;generalize X.S j 1=s1 at*;generalize X.S j 2=s2 at*;generalize X.S j 3=s3 at*;have E:=aH d;rotate_left;iterate 2
  have d:=sH h hj;have Y:=dF;rw[c] at d;have C:=aH dA;generalize X.S j 1=s1 at d ha;generalize X.S j 2=s2 at d;generalize X.S j 3=s3 at d;have E:=aH d;rotate_left
 all_goals
  have v:=aH h
 iterate 2
  have L:=aH (af.refl (dR B M.K) w);rotate_left
 rotate_left 3;all_goals
  have HJ:=aH hj
 ·clear h hj u c;go_enter func376,ntmps376;go_wp2_with fail;refine gF ((show cK _ B M _ _ _ (.bool false) ⟨ay M.K X.C j,X.D,X.S⟩ from D.o ▸ my v.o HP.o j)) ?_;rintro w1 ⟨a,s⟩;have N:=s;obtain⟨c0,c1,c2,c3,x,y,z⟩:=a.cells;have F:=a.row.frozen;have Q:=aH a;have O:=aH (L.o.trans N);clear a s N;go_wp2;go_ret;exact⟨rfl,Q.o.same aD,O.o.trans aD⟩
 ·clear h hj I J K G H;go_enter func376,ntmps376;go_wp2;go_ret;exact⟨rfl,v.o.same aD,L.o.trans aD⟩
 ·clear h hj d c;rcases Z with rfl|rfl;all_goals
   go_enter func373,ntmps373;go_wp2_with fail;refine gF E.o ?_;rintro w1 b;have l:=aH b;clear b;go_wp2;go_ret;exact⟨rfl,v.o.same (l.o.trans aE),(l.o.trans aE).mono aS⟩
 iterate 2
  focus
   clear h hj d c dA;go_enter func373,ntmps373;go_wp2_with fail;refine gF E.o ?_;rintro w1 b;have g:=v.o.same b;have t:=g.free;have k:af [] w1 (w1.alloc (.cells #[q,s1,s2,s3] 138)):=aF.alloc _;have a:=g.same k;have A:=aq.new w1 #[q,s1,s2,s3] 138;have b0:=A.cell (i:=0) rfl;have b1:=A.cell (i:=1) rfl;obtain⟨c0,c1,c2,c3,x,y,z⟩:=a.cells;have H2:=aH a;have HB:=aH A;have T:=aH (show w1.heap.size∉dR B M.K fromλhm=>by obtain⟨_,_,q,_⟩:=t _ hm;exact am q.lt aO);have m:=aH (b.trans k);clear a g b A t k;go_wp2_with fail;generalize(w1.alloc (.cells #[q,s1,s2,s3] 138))=w2 at*;refine fT (C.o _ m.o) ?_;rintro e w3 ⟨rfl,a,s⟩;obtain⟨c0,c1,c2,c3,x,y,z⟩:=a.cells;obtain⟨q0,q1,q2,q3⟩:=a.sp HJ.o;have F:=a.row.frozen;have R:=aH a;have P:=aH ((m.o.mono (S':=dR B M.K) aS).trans s);clear a s;cases u:(r==10)
   all_goals
    have D:=aH u;go_wp2;go_ret;exact⟨by rw[D.o];rfl,R.o.Sz j _,P.o.trans (au.Sb M.K)⟩
def Mq:= @jW.1
def Q6:= @jW.2.1
def Mj:= @jW.2.2.1
def Mk:= @jW.2.2.2.1
def Ml:= @jW.2.2.2.2
end
theorem yO(S:Nat->Nat->Int)(j:Nat){t d:Nat}(h:t≠d)(a c:Int):aa (aa S j t a) j d c=aa (aa S j d c) j t a:=by
 funext x y
 simp only[aa];by_cases e:x=j/\y=d
 ·rw[ad e,ac (λq=>h (q.2.symm.trans e.2)),ad e]
 ·rw[ac e,ac e]
section
variable{n b:Nat}{S T:Nat->Nat->Int}{Q:List Nat}{o:Option Nat}{A B:AR}{j:Nat}{v:Int}
theorem RI.frame(h:RI n b A S Q o)(a:∀i:Int,(b:Int)<=i->i<(b:Int)+((1+2*n:Nat):Int)->B.get i=A.get i):RI n b B S Q o:=⟨by rw[fN a];exact h.mc,h.va⟩
theorem RI.ask(h:RI n b A S Q o)(hj:j<n)(a:S j 0=0):RI n b A (aa S j 0 1) Q o/\(jq n (cv b n A) (aa S j 0 1)->jq n (cv b n A) S)/\(iS n (cv b n A) (aa S j 0 1)->iS n (cv b n A) S):=by
 have d:rv S j 0=0:=by rw[sj,a];rfl
 have hm:=h.mc.early (w':=cw (cv b n A)) (pc:=1) hj aO aO (λ_ _=>rfl) (λ_ _=>rfl) rfl aO aO;exact⟨⟨ma hm (λk c t=>aj _ _ _ _ c) (λ_ _ _=>rfl) (by rw[ak];rfl) aO aO,ie h (λ_ _ _=>rfl) aO⟩,Bd aO aO (λ_ _ _=>rfl) (λ_ _=>rfl) aO,vT aO (λ_ _ _=>rfl) (λ_ _=>rfl) aO⟩
theorem RI.hand(h:RI n b A S Q o)(hj:j<n)(d:S j 0=10){pc:Int}(f:(pc=11/\v≠0)\/(pc=15/\1<=v)):RI n b A (aa (aa S j 0 pc) j 3 v) Q o:=by
 obtain rfl:=h.ow hj aO;rw[yO _ _ aO];have c:∀k,k≠j->∀t,aa S j 3 v k t=S k t:=λk a t=>aj _ _ _ _ a;have e:=(h.va j hj).1 (.inl d);have h1:aa S j 3 v j 1=S j 1:=bZ _ _ _ _ aO;have h3:aa S j 3 v j 3=v:=ak _ _ _ _;refine⟨h.mc.own (λk a t=>yI (λt=>(aj _ _ _ _ a).trans (c k a t)) t) (.inl ?_) rfl rfl rfl,ie h c aO⟩;rw[sj,ak];have:=pU pc;omega
theorem RI.zero(a:∀i:Int,(b:Int)<=i->i<(b:Int)+((1+2*n:Nat):Int)->A.get i=0):RI n b A (λ_ _=>0) [] none:=
 ⟨by
  have e:rv (λ_ _=>0)=λ_ _=>0:=by
   funext j t
   unfold rv
   split
   ·rfl
   ·split<;>rfl
  rw[e];exact MC.zero (a b aO aO),λj hj=>by omega⟩
end
end Go.Proofs.YteijjhahgabalaaGreat
