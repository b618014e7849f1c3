/- The contracts of package arena: words that are changed one at a time. -/
import Derived.Test.YteijjhahgabalaaGreatProg
import Derived.WalkKit
import Derived.WalkSpells
import Derived.Deep.QuietTactic
import Derived.BigQuiet
import Derived.IntWalk
import Derived.Lib.Hide
import Derived.Laws.LoneSync
import Derived.Test.YteijjhahgabalaaGreatWF05
import Derived.Test.YteijjhahgabalaaGreatWF01
set_option maxRecDepth 100000
set_option maxHeartbeats 8000000
set_option linter.all false
namespace Go.Proofs.YteijjhahgabalaaGreat
open Go.RowKit
open Tryz
structure AR where
 ws:List Int
 taken:Nat
 ops:Int
 k:Int
 at_:Int
 wr:Bool
structure ax(w:World)(ab wb:Nat)(A:AR):Prop where
 box:aq w ab [.slice (some ⟨wb,0,none⟩) A.ws.length A.ws.length,A.taken,A.ops,A.k,A.at_,A.wr] 93
 row:aq w wb (A.ws.map (Value.int .i64)) 158
 ne:wb≠ab
 room:A.ws.length<=4096
 le:A.taken<=A.ws.length
theorem ax.Rr{w w':World}{ab wb:Nat}{A:AR}(h:ax w ab wb A){S:List Nat}(a:af S w w')(h1:ab∉S)(h2:wb∉S):ax w' ab wb A:=
 {h with box:=h.box.Rr a h1,row:=h.row.Rr a h2}
def AR.note(A:AR)(k at_:Int)(wr:Bool):AR:={A with ops:=wrap64 (A.ops+1),k:=k,at_:=at_,wr:=wr}
def AR.has(A:AR)(i:Int):Bool:=decide (1<=i/\i<=(A.taken:Int))
def AR.get(A:AR)(i:Int):Int:=if A.has i then A.ws[(i.toNat - 1)]?.getD 0 else 0
def AR.put(A:AR)(i v:Int):AR:={A with ws:=A.ws.set (i.toNat - 1) v}
def AR.load(A:AR)(i:Int):AR:=if A.has i then A.note 1 i false else A
def AR.store(A:AR)(i v:Int):AR:=if A.has i then(A.note 2 i true).put i v else A
def AR.swap(A:AR)(i v:Int):AR:=if A.has i then(A.note 3 i true).put i v else A
def AR.RE(A:AR)(i o:Int):Bool:=A.has i&&decide (A.get i=o)
def AR.Sd(A:AR)(i o v:Int):AR:=if A.has i then(if A.get i=o then(A.note 4 i true).put i v else A.note 4 i false) else A
def AR.add(A:AR)(i d:Int):AR:=if A.has i then(A.note 5 i true).put i (wrap64 (A.get i+d)) else A
def AR.RH(A:AR)(i d:Int):Int:=if A.has i then wrap64 (A.get i+d) else 0
variable{w:World}{ab wb:Nat}{A:AR}
theorem B8(h:ax w ab wb A):Calls prog 32 #[some ab] w λe w'=>e= .returned A.taken/\w=w':=by
 have c1:=h.box.cell (i:=1) rfl;clear h;go_enter func32,ntmps32;go_wp2;go_ret;exact⟨rfl,rfl⟩
theorem kn(h:ax w ab wb A)(i:Int)(hi:A.has i=true):
 Calls prog 78 #[some ab,i] w λe w'=>e= .returned (.pointer (some ⟨wb,i.toNat - 1,none⟩))/\w=w':=by
 have h1:1<=i/\i<=(A.taken:Int):=by unfold AR.has at hi;simpa using hi
 have h2:=h.le;have h3:=h.room;have c0:=h.box.cell (i:=0) rfl;obtain⟨n,hn⟩:∃n:Nat,i=(n:Int)+1:=⟨i.toNat - 1,by omega⟩
 have b:=aH (B8 h);subst hn;have a:((n:Int)+1).toNat - 1=n:=by omega
 rw[a];clear h hi a;have d1:decide ((n:Int)+1<1)=false:=by simp;omega
 have d2:decide ((A.taken:Int)<(n:Int)+1)=false:=by simp;omega
 have l1:(n:Int)<A.ws.length:=by omega
 go_enter func78,ntmps78;go_wp2_with fail;refine gF b.o ?_;rintro w' rfl;go_wp2;go_ret;exact⟨rfl,rfl⟩
theorem oq(h:ax w ab wb A)(i:Int)(hi:A.has i=false):
 Calls prog 78 #[some ab,i] w λe w'=>e= .returned (.pointer none)/\w=w':=by
 have h1:¬(1<=i/\i<=(A.taken:Int)):=by unfold AR.has at hi;simpa using hi
 have a:=aH (B8 h);clear h hi;by_cases b:i<1
 ·go_enter func78,ntmps78;go_wp2;go_ret;exact⟨rfl,rfl⟩
 ·have d1:decide (i<1)=false:=by simp;omega
  have d2:decide ((A.taken:Int)<i)=true:=by simp;omega
  clear h1;go_enter func78,ntmps78;go_wp2_with fail;refine gF a.o ?_;rintro w' rfl;go_wp2;go_ret;exact⟨rfl,rfl⟩
theorem j6(h:ax w ab wb A)(k i:Int)(wr:Bool):
 Calls prog 79 #[some ab,k,i,wr] w λe w'=>e= .returned (.tuple #[])/\ax w' ab wb (A.note k i wr)/\af [ab] w w':=by
 have c2:=h.box.cell (i:=2) rfl;have c3:=h.box.cell (i:=3) rfl;have a:=h.box.cell (i:=4) rfl;have b:=h.box.cell (i:=5) rfl;have c:=h.box.frozen 2;have d:=h.box.frozen 3;have f:=h.box.frozen 4;have g:=h.box.frozen 5;have H:=aH h;clear h;go_enter func79,ntmps79;go_wp2;go_end0;refine⟨rfl,?_,?_⟩
 ·exact{box:=(((H.o.box.set 2 _).set 3 _).set 4 _).set 5 _,row:=((((H.o.row.other _ _ H.o.ne).other _ _ H.o.ne).other _ _ H.o.ne).other _ _ H.o.ne),ne:=H.o.ne,room:=H.o.room,le:=H.o.le}
 ·exact((aU.set _ _ (.inl aS)).set _ _ (.inl aS)).set _ _ (.inl aS)
theorem ax.put{w:World}{ab wb:Nat}{A:AR}(h:ax w ab wb A)(i v:Int):ax (w.setCell (wb,i.toNat - 1) (.int .i64 v)) ab wb (A.put i v):=by
 have h2:=h.box.other ⟨wb,i.toNat - 1,none⟩ (.int .i64 v) (Ne.symm h.ne);refine{box:=?_,row:=?_,ne:=h.ne,room:=?_,le:=?_}
 ·unfold AR.put;rw[y9];exact h2
 ·unfold AR.put;rw[List.map_set];exact h.row.set _ _
 ·unfold AR.put;rw[y9];exact h.room
 ·unfold AR.put;rw[y9];exact h.le
theorem mr(h:ax w ab wb A)(i:Int)(hi:A.has i=true):w.cell? (wb,i.toNat - 1)=some (.int .i64 (A.get i)):=by
 have h1:1<=i/\i<=(A.taken:Int):=by unfold AR.has at hi;simpa using hi
 have h2:=h.le;refine h.row.cell ?_;have hl:(i.toNat - 1)<A.ws.length:=by omega
 unfold AR.get;rw[hi,iL,eB hl];rfl
theorem Cn(w:World)(b i:Nat)(n v:Int)(h:w.cell? (b,i)=some (.int .i64 n))(a:w.frozen? ⟨b,i,none⟩=false):
 Calls prog 166 #[.pointer (some ⟨b,i,none⟩),n,v] w λe w'=>e= .returned true/\w'=w.setCell (b,i) (.int .i64 v):=by
 have hl:=run_call_cas_hit (P:=prog) func167 aK aK aK .i64 aK (y:=v) h a;go_enter func166,ntmps166;go_wp2;go_ret;exact⟨rfl,rfl⟩
theorem Ax(w:World)(b i:Nat)(n o v:Int)(h:w.cell? (b,i)=some (.int .i64 n))(c:w.frozen? ⟨b,i,none⟩=false)(a:¬n=o):
 Calls prog 166 #[.pointer (some ⟨b,i,none⟩),o,v] w λe w'=>e= .returned false/\w=w':=by
 have hl:=run_call_cas_miss (P:=prog) func167 aK aK aK .i64 aK (o:=o) (y:=v) h c a;clear a;go_enter func166,ntmps166;go_wp2;go_ret;exact⟨rfl,rfl⟩
theorem JM(h:ax w ab wb A)(i o v:Int)(hi:A.has i=false):
 Calls prog 165 #[some ab,i,o,v] w λe w'=>e= .returned false/\w=w':=by
 have HW:=aH (oq h i hi);clear h hi;go_enter func165,ntmps165;go_wp2_with fail;refine gF HW.o ?_;rintro w' rfl;go_wp2;go_ret;exact⟨rfl,rfl⟩
theorem Gh(h:ax w ab wb A)(i v:Int)(hi:A.has i=true):
 Calls prog 165 #[some ab,i,(A.get i:Int),v] w λe w'=>e= .returned true/\ax w' ab wb ((A.note 4 i true).put i v)/\af [ab,wb] w w':=by
 have HW:=aH (kn h i hi);have d:=aH (Cn w wb (i.toNat - 1) (A.get i) v (mr h i hi) (h.row.frozen _));have g:=aH (j6 (h.put i v) 4 i true);clear h hi;go_enter func165,ntmps165;go_wp2_with fail;refine gF HW.o ?_;rintro w' rfl;go_wp2_with fail;refine gF d.o ?_;rintro w' rfl;go_wp2_with fail;refine gF g.o ?_;rintro w1 ⟨a,b⟩;have c:=aH a;have f:=aH b;clear a b;go_wp2;go_ret;exact⟨rfl,c.o,((af.refl [ab,wb] w).set _ _ (.inl aS)).trans (f.o.mono aS)⟩
theorem B5(h:ax w ab wb A)(i o v:Int)(hi:A.has i=true)(a:¬A.get i=o):
 Calls prog 165 #[some ab,i,o,v] w λe w'=>e= .returned false/\ax w' ab wb (A.note 4 i false)/\af [ab,wb] w w':=by
 have HW:=aH (kn h i hi);have f:=aH (Ax w wb (i.toNat - 1) (A.get i) o v (mr h i hi) (h.row.frozen _) a);have j:=aH (j6 h 4 i false);clear h hi a;go_enter func165,ntmps165;go_wp2_with fail;refine gF HW.o ?_;rintro w' rfl;go_wp2_with fail;refine gF f.o ?_;rintro w' rfl;go_wp2_with fail;refine gF j.o ?_;rintro w1 ⟨b,c⟩;have d:=aH b;have g:=aH c;clear b c;go_wp2;go_ret;exact⟨rfl,d.o,g.o.mono aS⟩
theorem Gg(h:ax w ab wb A)(i o v:Int):
 Calls prog 165 #[some ab,i,o,v] w λe w'=>e= .returned (.bool (A.RE i o))/\ax w' ab wb (A.Sd i o v)/\af [ab,wb] w w':=by
 cases hi:A.has i with
 |true=>
  by_cases a:A.get i=o
  ·subst a;exact(Gh h i v hi).mono λe w' ⟨h1,h2,h3⟩=>⟨by rw[h1];unfold AR.RE;rw[hi];simp,by unfold AR.Sd;rw[hi,ad rfl,ad rfl];exact h2,h3⟩
  ·exact(B5 h i o v hi a).mono λe w' ⟨h1,h2,h3⟩=>⟨by rw[h1];unfold AR.RE;rw[hi];simp[a],by unfold AR.Sd;rw[hi,ad rfl,ac a];exact h2,h3⟩
 |false=>
  exact(JM h i o v hi).mono λe w' ⟨h1,h2⟩=>by
   subst h2;exact⟨by rw[h1];unfold AR.RE;rw[hi];rfl,by unfold AR.Sd;rw[hi];exact h,aF⟩
theorem xK(w:World)(b i:Nat)(n v:Int)(h:w.cell? (b,i)=some (.int .i64 n))(a:w.frozen? ⟨b,i,none⟩=false):
 Calls prog 80 #[.pointer (some ⟨b,i,none⟩),v] w λe w'=>e= .returned (.tuple #[])/\w'=w.setCell (b,i) (.int .i64 v):=by
 have hl:=run_call_store (P:=prog) func101 aK aK aK aK (k:=.i64) (y:=v) h a;go_enter func80,ntmps80;go_wp2;go_end0;exact⟨rfl,rfl⟩
theorem Cf(h:ax w ab wb A)(i v:Int)(hi:A.has i=false):
 Calls prog 63 #[some ab,i,v] w λe w'=>e= .returned (.tuple #[])/\w=w':=by
 have HW:=aH (oq h i hi);clear h hi;go_enter func63,ntmps63;go_wp2_with fail;refine gF HW.o ?_;rintro w' rfl;go_wp2;go_end0;exact⟨rfl,rfl⟩
theorem As(h:ax w ab wb A)(i v:Int)(hi:A.has i=true):
 Calls prog 63 #[some ab,i,v] w λe w'=>e= .returned (.tuple #[])/\ax w' ab wb ((A.note 2 i true).put i v)/\af [ab,wb] w w':=by
 have HW:=aH (kn h i hi);have f:=aH (j6 h 2 i true);have HI:=aH (show(A.note 2 i true).has i=true from hi);clear h hi;go_enter func63,ntmps63;go_wp2_with fail;refine gF HW.o ?_;rintro w' rfl;go_wp2_with fail;refine gF f.o ?_;rintro w1 ⟨b,c⟩;have a:=aH b;have d:=aH c;clear b c;go_wp2_with fail;refine gF (xK _ _ _ _ _ (mr a.o i HI.o) (a.o.row.frozen _)) ?_;rintro w2 rfl;go_wp2;go_end0;exact⟨rfl,a.o.put i _,(d.o.mono aS).set _ _ (.inl aS)⟩
theorem iN(h:ax w ab wb A)(i v:Int):
 Calls prog 63 #[some ab,i,v] w λe w'=>e= .returned (.tuple #[])/\ax w' ab wb (A.store i v)/\af [ab,wb] w w':=by
 cases hi:A.has i with
 |true=>exact(As h i v hi).mono λe w' ⟨h1,h2,h3⟩=>⟨h1,by unfold AR.store;rw[hi];exact h2,h3⟩
 |false=>
  exact(Cf h i v hi).mono λe w' ⟨h1,h2⟩=>by
   subst h2;exact⟨h1,by unfold AR.store;rw[hi];exact h,aF⟩
theorem Ay(w:World)(b i:Nat)(n:Int)(h:w.cell? (b,i)=some (.int .i64 n)):
 Calls prog 65 #[.pointer (some ⟨b,i,none⟩)] w λe w'=>e= .returned n/\w=w':=by
 have hl:=Al (P:=prog) func81 aK aK aK .i64 aK h;go_enter func65,ntmps65;go_wp2;go_ret;exact⟨rfl,rfl⟩
theorem Gl(h:ax w ab wb A)(i:Int)(hi:A.has i=false):
 Calls prog 106 #[some ab,i] w λe w'=>e= .returned (0:Int)/\w=w':=by
 have HW:=aH (oq h i hi);clear h hi;go_enter func106,ntmps106;go_wp2_with fail;refine gF HW.o ?_;rintro w' rfl;go_wp2;go_ret;exact⟨rfl,rfl⟩
theorem B9(h:ax w ab wb A)(i:Int)(hi:A.has i=true):
 Calls prog 106 #[some ab,i] w λe w'=>e= .returned (A.get i:Int)/\ax w' ab wb (A.note 1 i false)/\af [ab,wb] w w':=by
 have HW:=aH (kn h i hi);have j:=aH (j6 h 1 i false);have d:(A.note 1 i false).get i=A.get i:=rfl;have f:=aH d;have HI:=aH (show(A.note 1 i false).has i=true from hi);clear h hi d;go_enter func106,ntmps106;go_wp2_with fail;refine gF HW.o ?_;rintro w' rfl;go_wp2_with fail;refine gF j.o ?_;rintro w1 ⟨b,c⟩;have a:=aH b;have g:=aH c;clear b c;go_wp2_with fail;refine gF (Ay _ _ _ _ (mr a.o i HI.o)) ?_;rintro w' rfl;go_wp2;go_ret;exact⟨eW f.o,a.o,g.o.mono aS⟩
theorem fh(h:ax w ab wb A)(i:Int):
 Calls prog 106 #[some ab,i] w λe w'=>e= .returned (A.get i:Int)/\ax w' ab wb (A.load i)/\af [ab,wb] w w':=by
 cases hi:A.has i with
 |true=>exact(B9 h i hi).mono λe w' ⟨h1,h2,h3⟩=>⟨h1,by unfold AR.load;rw[hi];exact h2,h3⟩
 |false=>
  exact(Gl h i hi).mono λe w' ⟨h1,h2⟩=>by
   subst h2;exact⟨by rw[h1];unfold AR.get;rw[hi];rfl,by unfold AR.load;rw[hi];exact h,aF⟩
variable{x:Int}
theorem ce(h: -9223372036854775808<=x/\x<=9223372036854775807):wrap64 x=x:=by unfold wrap64;omega
def AR.Fit(A:AR):Prop:=A.taken<=A.ws.length/\A.ws.length<=4096/\0<=A.ops/\A.ops<=1000000000
variable{i:Int}
theorem a6:A.has i=true↔1<=i/\i<=(A.taken:Int):=by unfold AR.has;simp
theorem qy(a:A.taken<=A.ws.length)(hi:A.has i=true)(v j:Int):(A.put i v).get j=if j=i then v else A.get j:=by
 have h1:=a6.1 hi;by_cases e:j=i
 ·subst e;rw[ad rfl];unfold AR.get AR.put;have:AR.has {A with ws:=A.ws.set (j.toNat - 1) v} j=A.has j:=rfl;rw[this,hi,ad rfl,s7,ad rfl,ad aO];rfl
 ·rw[ac e];unfold AR.get AR.put;have:AR.has {A with ws:=A.ws.set (i.toNat - 1) v} j=A.has j:=rfl;rw[this];by_cases hj:A.has j=true
  ·have h2:=a6.1 hj;rw[hj,ad rfl,ad rfl,s7,ac aO]
  ·rw[ac hj,ac hj]
section
variable{A:AR}{i j v o d:Int}
theorem aw:(A.load i).get j=A.get j:=by unfold AR.load;split<;>rfl
theorem bU(a:A.taken<=A.ws.length)(hi:A.has i=true):(A.store i v).get j=if j=i then v else A.get j:=by
 unfold AR.store;rw[ad hi];exact qy (A:=A.note 2 i true) a hi v j
theorem jX(a:A.taken<=A.ws.length)(hi:A.has i=true):(A.swap i v).get j=if j=i then v else A.get j:=by
 unfold AR.swap;rw[ad hi];exact qy (A:=A.note 3 i true) a hi v j
theorem iB(a:A.taken<=A.ws.length)(hi:A.has i=true):(A.add i d).get j=if j=i then wrap64 (A.get i+d) else A.get j:=by
 unfold AR.add;rw[ad hi];exact qy (A:=A.note 5 i true) a hi _ j
theorem mt(a:A.taken<=A.ws.length)(hi:A.has i=true):(A.Sd i o v).get j=if j=i/\A.get i=o then v else A.get j:=by
 unfold AR.Sd;rw[ad hi];by_cases h:A.get i=o
 ·rw[ad h];refine(qy (A:=A.note 4 i true) a hi v j).trans ?_;by_cases e:j=i
  ·rw[ad e,ad ⟨e,h⟩]
  ·rw[ac e,ac (λx=>e x.1)];rfl
 ·rw[ac h,ac (λx=>h x.2)];rfl
theorem lK(hi:A.has i=true):A.RE i o=true↔A.get i=o:=by unfold AR.RE;rw[hi];simp
end
structure ij(b m:Nat)(A B:AR):Prop where
 taken:B.taken=A.taken
 len:B.ws.length=A.ws.length
 out:∀i:Int,(i<b\/(b:Int)+m<=i)->B.get i=A.get i
 ops:B=A\/(B.ops=A.ops+1/\(b:Int)<=B.at_/\B.at_<(b:Int)+m)
section
variable{A B:AR}{b m:Nat}{i v o d:Int}
theorem ij.refl(b m:Nat)(A:AR):ij b m A A:=⟨rfl,rfl,λ_ _=>rfl,.inl rfl⟩
theorem eM(a:A.Fit):wrap64 (A.ops+1)=A.ops+1:=ce (by have:=a.2.2;omega)
theorem eE(a:A.Fit)(hi:A.has i=true)(h1:(b:Int)<=i)(h2:i<(b:Int)+m):ij b m A (A.load i)/\(A.load i).ops=A.ops+1:=by
 have e:A.load i=A.note 1 i false:=by unfold AR.load;rw[ad hi]
 rw[e];exact⟨⟨rfl,rfl,λ_ _=>rfl,.inr ⟨eM a,h1,h2⟩⟩,eM a⟩
theorem cV(a:A.Fit)(hi:A.has i=true)(h1:(b:Int)<=i)(h2:i<(b:Int)+m):ij b m A (A.store i v)/\(A.store i v).ops=A.ops+1:=by
 have e:A.store i v=(A.note 2 i true).put i v:=by unfold AR.store;rw[ad hi]
 refine⟨⟨by rw[e];rfl,by rw[e];exact y9,λj hj=>?_,.inr ?_⟩,by rw[e];exact eM a⟩
 ·rw[bU a.1 hi,ac aO]
 ·rw[e];exact⟨eM a,h1,h2⟩
theorem uI(a:A.Fit)(hi:A.has i=true)(h1:(b:Int)<=i)(h2:i<(b:Int)+m):ij b m A (A.swap i v)/\(A.swap i v).ops=A.ops+1:=by
 have e:A.swap i v=(A.note 3 i true).put i v:=by unfold AR.swap;rw[ad hi]
 refine⟨⟨by rw[e];rfl,by rw[e];exact y9,λj hj=>?_,.inr ?_⟩,by rw[e];exact eM a⟩
 ·rw[jX a.1 hi,ac aO]
 ·rw[e];exact⟨eM a,h1,h2⟩
theorem r4(a:A.Fit)(hi:A.has i=true)(h1:(b:Int)<=i)(h2:i<(b:Int)+m):ij b m A (A.add i d)/\(A.add i d).ops=A.ops+1:=by
 have e:A.add i d=(A.note 5 i true).put i (wrap64 (A.get i+d)):=by unfold AR.add;rw[ad hi]
 refine⟨⟨by rw[e];rfl,by rw[e];exact y9,λj hj=>?_,.inr ?_⟩,by rw[e];exact eM a⟩
 ·rw[iB a.1 hi,ac aO]
 ·rw[e];exact⟨eM a,h1,h2⟩
theorem yC(a:A.Fit)(hi:A.has i=true)(h1:(b:Int)<=i)(h2:i<(b:Int)+m):ij b m A (A.Sd i o v)/\(A.Sd i o v).ops=A.ops+1:=by
 by_cases h:A.get i=o
 ·have e:A.Sd i o v=(A.note 4 i true).put i v:=by unfold AR.Sd;rw[ad hi,ad h]
  refine⟨⟨by rw[e];rfl,by rw[e];exact y9,λj hj=>?_,.inr ?_⟩,by rw[e];exact eM a⟩
  ·rw[mt a.1 hi,ac aO]
  ·rw[e];exact⟨eM a,h1,h2⟩
 ·have e:A.Sd i o v=A.note 4 i false:=by unfold AR.Sd;rw[ad hi,ac h]
  rw[e];exact⟨⟨rfl,rfl,λ_ _=>rfl,.inr ⟨eM a,h1,h2⟩⟩,eM a⟩
theorem ij.le(h:ij b m A B):A.ops<=B.ops/\B.ops<=A.ops+1:=by
 rcases h.ops with e|⟨e,_⟩
 ·rw[e];omega
 ·omega
theorem ij.fit(h:ij b m A B)(a:A.Fit)(hl:A.ops<1000000000):B.Fit:=by
 have:=h.le;exact⟨by rw[h.taken,h.len];exact a.1,by rw[h.len];exact a.2.1,by have:=a.2.2.1;omega,by omega⟩
end
theorem Cm(w:World)(b i:Nat)(n d:Int)(h:w.cell? (b,i)=some (.int .i64 n))(a:w.frozen? ⟨b,i,none⟩=false):
 Calls prog 182 #[.pointer (some ⟨b,i,none⟩),d] w λe w'=>e= .returned (wrap64 (n+d):Int)/\w'=w.setCell (b,i) (.int .i64 (wrap64 (n+d))):=by
 have hl:=run_call_add (P:=prog) func183 aK aK aK .i64 aK (y:=d) (s:=wrap64 (n+d)) h a (by simp[go_sem,BR]);go_enter func182,ntmps182;go_wp2;go_ret;exact⟨rfl,rfl⟩
theorem JK(h:ax w ab wb A)(i d:Int)(hi:A.has i=false):
 Calls prog 179 #[some ab,i,d] w λe w'=>e= .returned (0:Int)/\w=w':=by
 have HW:=aH (oq h i hi);clear h hi;go_enter func179,ntmps179;go_wp2_with fail;refine gF HW.o ?_;rintro w' rfl;go_wp2;go_ret;exact⟨rfl,rfl⟩
theorem Gf(h:ax w ab wb A)(i d:Int)(hi:A.has i=true):
 Calls prog 179 #[some ab,i,d] w λe w'=>e= .returned (wrap64 (A.get i+d):Int)/\ax w' ab wb ((A.note 5 i true).put i (wrap64 (A.get i+d)))/\af [ab,wb] w w':=by
 have HW:=aH (kn h i hi);have k:=aH (j6 h 5 i true);have g:(A.note 5 i true).get i=A.get i:=rfl;have b:=aH g;have HI:=aH (show(A.note 5 i true).has i=true from hi);clear h hi g;go_enter func179,ntmps179;go_wp2_with fail;refine gF HW.o ?_;rintro w' rfl;go_wp2_with fail;refine gF k.o ?_;rintro w1 ⟨c,f⟩;have a:=aH c;have j:=aH f;clear c f;go_wp2_with fail;refine gF (Cm _ _ _ _ _ (mr a.o i HI.o) (a.o.row.frozen _)) ?_;rintro w2 rfl;go_wp2;go_ret;exact⟨eW (by rw[b.o]),by rw[b.o];exact a.o.put i _,(j.o.mono aS).set _ _ (.inl aS)⟩
theorem qq(h:ax w ab wb A)(i d:Int):
 Calls prog 179 #[some ab,i,d] w λe w'=>e= .returned (A.RH i d:Int)/\ax w' ab wb (A.add i d)/\af [ab,wb] w w':=by
 cases hi:A.has i with
 |true=>exact(Gf h i d hi).mono λe w' ⟨h1,h2,h3⟩=>⟨by rw[h1];unfold AR.RH;rw[hi];rfl,by unfold AR.add;rw[hi];exact h2,h3⟩
 |false=>
  exact(JK h i d hi).mono λe w' ⟨h1,h2⟩=>by
   subst h2;exact⟨by rw[h1];unfold AR.RH;rw[hi];rfl,by unfold AR.add;rw[hi];exact h,aF⟩
theorem sV{P:Program}{f:FuncId}{c:Func}(i:P.funcs[f]? =some c)(b:(c.name== "runtime.NumGoroutine")=false)(e:c.body.isNone=true)(hn:Extern.findNext c=none)(k:IntKind)(h:Extern.find c=some (Extern.Atomic.swapT (.int k))){a:Addr}{y:Int}(g:w.cell? a=some (.int k x))(j:w.frozen? a=false):
 (callFunc f #[.pointer (some a),.int k y]).run P w= .ok (.value (.int k x)) (w.setCell a (.int k y)):=by
 rw[run_callFunc_extern i b e hn h];change (Sem.run P (asAddr (.pointer (some a)) >>=λd=>Extern.Atomic.read (.int k) d >>=λT4=>store d (.int k y) .atomic >>=λ_=>pure T4) w).andThen _=_;simp[Extern.Atomic.read,asAddr,g,j,run_store P w a (.int k y) .atomic rfl,Result.andThen]
theorem Az(w:World)(b i:Nat)(n v:Int)(h:w.cell? (b,i)=some (.int .i64 n))(a:w.frozen? ⟨b,i,none⟩=false):
 Calls prog 208 #[.pointer (some ⟨b,i,none⟩),v] w λe w'=>e= .returned n/\w'=w.setCell (b,i) (.int .i64 v):=by
 have hl:=sV (P:=prog) func209 aK aK aK .i64 aK (y:=v) h a;go_enter func208,ntmps208;go_wp2;go_ret;exact⟨rfl,rfl⟩
theorem Gn(h:ax w ab wb A)(i v:Int)(hi:A.has i=false):
 Calls prog 207 #[some ab,i,v] w λe w'=>e= .returned (0:Int)/\w=w':=by
 have HW:=aH (oq h i hi);clear h hi;go_enter func207,ntmps207;go_wp2_with fail;refine gF HW.o ?_;rintro w' rfl;go_wp2;go_ret;exact⟨rfl,rfl⟩
theorem Ci(h:ax w ab wb A)(i v:Int)(hi:A.has i=true):
 Calls prog 207 #[some ab,i,v] w λe w'=>e= .returned (A.get i:Int)/\ax w' ab wb ((A.note 3 i true).put i v)/\af [ab,wb] w w':=by
 have HW:=aH (kn h i hi);have j:=aH (j6 h 3 i true);have d:(A.note 3 i true).get i=A.get i:=rfl;have f:=aH d;have HI:=aH (show(A.note 3 i true).has i=true from hi);clear h hi d;go_enter func207,ntmps207;go_wp2_with fail;refine gF HW.o ?_;rintro w' rfl;go_wp2_with fail;refine gF j.o ?_;rintro w1 ⟨b,c⟩;have a:=aH b;have g:=aH c;clear b c;go_wp2_with fail;refine gF (Az _ _ _ _ _ (mr a.o i HI.o) (a.o.row.frozen _)) ?_;rintro w2 rfl;go_wp2;go_ret;exact⟨eW (by rw[f.o]),a.o.put i _,(g.o.mono aS).set _ _ (.inl aS)⟩
theorem Cg(h:ax w ab wb A)(i v:Int):
 Calls prog 207 #[some ab,i,v] w λe w'=>e= .returned (A.get i:Int)/\ax w' ab wb (A.swap i v)/\af [ab,wb] w w':=by
 cases hi:A.has i with
 |true=>exact(Ci h i v hi).mono λe w' ⟨h1,h2,h3⟩=>⟨h1,by unfold AR.swap;rw[hi];exact h2,h3⟩
 |false=>
  exact(Gn h i v hi).mono λe w' ⟨h1,h2⟩=>by
   subst h2;exact⟨by rw[h1];unfold AR.get;rw[hi];rfl,by unfold AR.swap;rw[hi];exact h,aF⟩
def jL(n:Nat):Array Value:=(List.replicate n (Value.int .i64 0)).toArray
theorem sX(n:Nat):(jL n).toList=(List.replicate n (0:Int)).map (Value.int .i64):=by simp[jL]
theorem Fv:(prog.info? 158).map (λi=>(i.zero,i.size,i.bytes))=some (some (.agg #[(0:Int)]),1,8):=by kernel_rfl
theorem If(n:Nat)(hn:n<=1000000)(W:World):(Instr.makeSlice 91 (.int .i64 n) (.int .i64 n)).run prog W= .ok (.slice (some ⟨W.heap.size,0,none⟩) n n) (W.alloc (.cells (jL n) 158)):=by
 obtain⟨i0,hi,a,b,c⟩:=mN Fv;rw[run_make W 91 158 i0 (.agg #[(0:Int)]) underlying91 hi a .i64 .i64 n n aO aO (by rw[c];omega) aO];have e:madeCells (Value.agg #[(0:Int)]).cells (((n:Int).toNat)*i0.size)=jL n:=by
  apply xj;rw[b];show(madeCells #[Value.int .i64 0] _).toList=_;rw[I7];simp[jL]
 rw[e];simp
def AR.fresh(n:Nat):AR:={ws:=List.replicate n 0,taken:=0,ops:=0,k:=0,at_:=0,wr:=false}
theorem Di(w:World)(n:Nat)(hn:n<=4096):ax ((w.alloc (.cells (jL n) 158)).alloc (.cells #[.slice (some ⟨w.heap.size,0,none⟩) n n,(0:Int),(0:Int),(0:Int),(0:Int),false] 93)) (w.heap.size+1) w.heap.size (AR.fresh n):=by
 have h1:=(aq.new w (jL n) 158).alloc (.cells #[.slice (some ⟨w.heap.size,0,none⟩) n n,(0:Int),(0:Int),(0:Int),(0:Int),false] 93);have h2:=aq.new (w.alloc (.cells (jL n) 158)) #[.slice (some ⟨w.heap.size,0,none⟩) n n,(0:Int),(0:Int),(0:Int),(0:Int),false] 93;rw[sX] at h1;rw[bP] at h2;refine{box:=?_,row:=h1,ne:=by omega,room:=by simpa[AR.fresh] using hn,le:=by simp[AR.fresh]};simpa[AR.fresh] using h2
theorem Ca(room:Int)(n:Nat)(hn:n<=4096)(w:World)(h:(4096<room/\n=4096)\/(0<room/\room<=4096/\room=n)\/(room<=0/\n=0)):
 Calls prog 30 #[room] w λe w'=>e= .returned (some (w.heap.size+1))/\ax w' (w.heap.size+1) w.heap.size (AR.fresh n)/\af [] w w':=by
 have c:=aH (Di w n hn);have a:=If n aO;rcases h with⟨h1,rfl⟩|⟨h1,h2,rfl⟩|⟨h1,rfl⟩
 ·have b:∀W:World,(Instr.makeSlice 91 (.int .i64 4096) (.int .i64 4096)).run prog W= .ok (.slice (some ⟨W.heap.size,0,none⟩) 4096 4096) (W.alloc (.cells (jL 4096) 158)):=λW=>a W;clear a;go_enter func30,ntmps30;go_wp2;go_ret;exact⟨rfl,c.o,(aF.alloc _).alloc _⟩
 ·go_enter func30,ntmps30;go_wp2;go_ret;exact⟨rfl,c.o,(aF.alloc _).alloc _⟩
 ·have b:∀W:World,(Instr.makeSlice 91 (.int .i64 0) (.int .i64 0)).run prog W= .ok (.slice (some ⟨W.heap.size,0,none⟩) 0 0) (W.alloc (.cells (jL 0) 158)):=λW=>a W;clear a;go_enter func30,ntmps30;go_wp2;go_ret;exact⟨rfl,c.o,(aF.alloc _).alloc _⟩
def si(room:Int):Nat:=if 4096<room then 4096 else room.toNat
theorem Gm(room:Int)(w:World):Calls prog 30 #[room] w λe w'=>e= .returned (some (w.heap.size+1))/\
 ax w' (w.heap.size+1) w.heap.size (AR.fresh (si room))/\af [] w w':=
 Ca room (si room) (by unfold si;split<;>omega) w (by unfold si;split<;>omega)
def AR.RU(A:AR)(n:Int):Int:=if n<0 then 1 else if(A.ws.length:Int) - A.taken<n then 3 else 0
def AR.takeN(A:AR)(n:Int):Int:=if A.RU n=0 then(A.taken:Int)+1 else 0
def AR.take(A:AR)(n:Int):AR:=if A.RU n=0 then{A with taken:=A.taken+n.toNat} else A
theorem Gp(h:ax w ab wb A)(n:Int)(hn:A.RU n≠0):
 Calls prog 61 #[some ab,n] w λe w'=>e= .returned (.tuple #[(0:Int),(A.RU n:Int)])/\af [] w w'/\ax w' ab wb A:=by
 have c0:=h.box.cell (i:=0) rfl;have c1:=h.box.cell (i:=1) rfl;have g:=h.le;have d:=h.room;have H:=aH h;clear h;by_cases a:n<0
 ·have c:A.RU n=1:=by unfold AR.RU;rw[ad a]
  rw[c];clear hn c;go_enter func61,ntmps61;go_wp2;go_ret2;exact⟨rfl,aF,H.o⟩
 ·have b:(A.ws.length:Int) - A.taken<n:=by
   by_cases f:(A.ws.length:Int) - A.taken<n
   ·exact f
   ·exact am (by unfold AR.RU;rw[ac a,ac f]) hn
  have c:A.RU n=3:=by unfold AR.RU;rw[ac a,ad b]
  rw[c];clear hn c;have d1:decide ((A.ws.length:Int) - A.taken<n)=true:=by simpa using b
  go_enter func61,ntmps61;go_wp2
  go_quiet (fail)
  go_wp2;go_ret2;exact⟨rfl,aF.drew _,(H.o.Rr ((af.refl [] _).drew _) aS aS)⟩
theorem Cj(h:ax w ab wb A)(n:Int)(hn:A.RU n=0):
 Calls prog 61 #[some ab,n] w λe w'=>e= .returned (.tuple #[((A.taken:Int)+1:Int),(0:Int)])/\af [ab] w w'/\ax w' ab wb {A with taken:=A.taken+n.toNat}:=by
 have a:¬n<0:=by intro a;unfold AR.RU at hn;rw[ad a] at hn;omega
 have d:¬(A.ws.length:Int) - A.taken<n:=by intro g;unfold AR.RU at hn;rw[ac a,ad g] at hn;omega
 clear hn;obtain⟨m,rfl⟩:∃m:Nat,n=m:=⟨n.toNat,by omega⟩
 have d1:decide ((A.ws.length:Int) - A.taken<(m:Int))=false:=by simp;omega
 have c0:=h.box.cell (i:=0) rfl;have c1:=h.box.cell (i:=1) rfl;have k:=h.box.frozen 1;have j:=h.le;have c:=h.room;have b:∀W:World,aq W ab [.slice (some ⟨wb,0,none⟩) A.ws.length A.ws.length,((A.taken:Int)+m:Int),A.ops,A.k,A.at_,A.wr] 93->aq W wb (A.ws.map (Value.int .i64)) 158->
  ax W ab wb {A with taken:=A.taken+(m:Int).toNat}:=λW a1 a2=>
  {box:=by simpa using a1,row:=a2,ne:=h.ne,room:=c,le:=by simp;omega}
 have H:=aH h;have f:=aH b;clear h b;go_enter func61,ntmps61;go_wp2
 go_quiet (fail)
 go_wp2;go_ret2;refine⟨rfl,?_,?_⟩
 ·exact(aF.drew _).set _ _ (.inl aS)
 ·exact f.o _ ((H.o.box.drew _).set 1 _) ((H.o.row.drew _).other _ _ H.o.ne)
theorem fL(h:ax w ab wb A)(n:Int):
 Calls prog 61 #[some ab,n] w λe w'=>e= .returned (.tuple #[(A.takeN n:Int),(A.RU n:Int)])/\ax w' ab wb (A.take n)/\af [ab,wb] w w':=by
 by_cases hn:A.RU n=0
 ·exact(Cj h n hn).mono λe w' ⟨h1,h2,h3⟩=>⟨by rw[h1];unfold AR.takeN;rw[ad hn,hn],by unfold AR.take;rw[ad hn];exact h3,h2.mono aS⟩
 ·exact(Gp h n hn).mono λe w' ⟨h1,h2,h3⟩=>⟨by rw[h1];unfold AR.takeN;rw[ac hn],by unfold AR.take;rw[ac hn];exact h3,h2.mono aS⟩
theorem kV{k:Nat}(h:A.taken+k<=A.ws.length):A.RU k=0/\A.takeN k=(A.taken:Int)+1/\A.take k={A with taken:=A.taken+k}:=by
 have h1:A.RU k=0:=by unfold AR.RU;rw[ac aO,ac aO]
 exact⟨h1,by unfold AR.takeN;rw[ad h1],by unfold AR.take;rw[ad h1];simp⟩
def fk(nodes:Nat)(k:Int):Bool:=decide (0<=k/\k<(nodes:Int))
def iW(first nodes:Nat)(k:Int):Int:=if fk nodes k then(first:Int)+2*k else 0
def AR.RF(A:AR)(first nodes:Nat)(k which:Int):AR:=if fk nodes k then A.add ((first:Int)+2*k+which) 1 else A
def AR.Sy(A:AR)(first nodes:Nat)(k which:Int):Int:=if fk nodes k then A.get ((first:Int)+2*k+which) else 0
def AR.SA(A:AR)(first nodes:Nat)(k which:Int):AR:=if fk nodes k then A.load ((first:Int)+2*k+which) else A
structure mT(w:World)(gb ab:Nat)(first nodes:Nat):Prop where
 box:aq w gb [some ab,first,nodes] 268
 SI:1<=first
 SJ:first<=5000
 Tm:nodes<=32
theorem mT.Rr{w w':World}{gb ab first a:Nat}(h:mT w gb ab first a){S:List Nat}(b:af S w w')(h1:gb∉S):mT w' gb ab first a:=
 {h with box:=h.box.Rr b h1}
variable{a gb first:Nat}
theorem yg(h:mT w gb ab first a):Calls prog 356 #[some gb] w λe w'=>e= .returned a/\w=w':=by
 have c2:=h.box.cell (i:=2) rfl;clear h;go_enter func356,ntmps356;go_wp2;go_ret;exact⟨rfl,rfl⟩
theorem tB(h:mT w gb ab first a)(k:Int):Calls prog 353 #[some gb,k] w λe w'=>e= .returned (iW first a k:Int)/\w=w':=by
 have c1:=h.box.cell (i:=1) rfl;have h1:=h.SI;have h2:=h.SJ;have h3:=h.Tm;have d:=aH (yg h);clear h;by_cases f:k<0
 ·have b:iW first a k=0:=by unfold iW fk;rw[ac aQ]
  rw[b];clear b;go_enter func353,ntmps353;go_wp2;go_ret;exact⟨rfl,rfl⟩
 ·have d1:decide (k<0)=false:=by simp;omega
  by_cases c:(a:Int)<=k
  ·have b:iW first a k=0:=by unfold iW fk;rw[ac aQ]
   rw[b];have d2:decide ((a:Int)<=k)=true:=by simpa using c
   clear b;go_enter func353,ntmps353;go_wp2_with fail;refine gF d.o ?_;rintro w' rfl;go_wp2;go_ret;exact⟨rfl,rfl⟩
  ·have b:iW first a k=(first:Int)+2*k:=by unfold iW fk;rw[ad aQ]
   rw[b];have d2:decide ((a:Int)<=k)=false:=by simp;omega
   have g:0<=k:=by omega
   have j:k<=40:=by omega
   clear b;go_enter func353,ntmps353;go_wp2_with fail;refine gF d.o ?_;rintro w' rfl;go_wp2;go_ret;exact⟨rfl,rfl⟩
variable{b:Nat}
theorem vO(h:mT w gb ab first b)(j:ax w ab wb A)(k a:Int)(o:a=0\/a=1):
 Calls prog 348 #[some gb,k,a] w λe w'=>e= .returned (.tuple #[])/\ax w' ab wb (A.RF first b k a)/\af [ab,wb] w w':=by
 have c0:=h.box.cell (i:=0) rfl;have h1:=h.SI;have h2:=h.SJ;have h3:=h.Tm;have HW:=aH (tB h k);cases c:fk b k with
 |true=>
  have m:0<=k/\k<(b:Int):=by unfold fk at c;simpa using c
  obtain⟨k1,k2⟩:=m;have g:iW first b k=(first:Int)+2*k:=by unfold iW;rw[c];rfl
  have f:A.RF first b k a=A.add ((first:Int)+2*k+a) 1:=by unfold AR.RF;rw[c];rfl
  rw[f];rw[g] at HW;have HAdd:=aH (qq j ((first:Int)+2*k+a) 1);clear h j c g f;have w1:0<=a:=by omega
  have w2:a<=1:=by omega
  clear o;go_enter func348,ntmps348;go_wp2_with fail;refine gF HW.o ?_;rintro w' rfl;go_wp2_with fail;refine gF HAdd.o ?_;rintro w' ⟨d,n⟩;have l:=aH d;have p:=aH n;clear d n;go_wp2;go_end0;exact⟨rfl,l.o,p.o⟩
 |false=>
  have g:iW first b k=0:=by unfold iW;rw[c];rfl
  have f:A.RF first b k a=A:=by unfold AR.RF;rw[c];rfl
  rw[f];rw[g] at HW;have l:=aH j;clear h j c g f o;go_enter func348,ntmps348;go_wp2_with fail;refine gF HW.o ?_;rintro w' rfl;go_wp2;go_end0;exact⟨rfl,l.o,aF⟩
theorem tC(h:mT w gb ab first b)(l:ax w ab wb A)(k a:Int)(p:a=0\/a=1):
 Calls prog 357 #[some gb,k,a] w λe w'=>e= .returned (A.Sy first b k a:Int)/\ax w' ab wb (A.SA first b k a)/\af [ab,wb] w w':=by
 have c0:=h.box.cell (i:=0) rfl;have h1:=h.SI;have h2:=h.SJ;have h3:=h.Tm;have HW:=aH (tB h k);cases d:fk b k with
 |true=>
  have n:0<=k/\k<(b:Int):=by unfold fk at d;simpa using d
  obtain⟨k1,k2⟩:=n;have j:iW first b k=(first:Int)+2*k:=by unfold iW;rw[d];rfl
  have g:A.SA first b k a=A.load ((first:Int)+2*k+a):=by unfold AR.SA;rw[d];rfl
  have c:A.Sy first b k a=A.get ((first:Int)+2*k+a):=by unfold AR.Sy;rw[d];rfl
  rw[g,c];rw[j] at HW;have r:=aH (fh l ((first:Int)+2*k+a));have d0:((first:Int)+2*k==0)=false:=by simp;omega
  clear h l d j g c;have w1:0<=a:=by omega
  have w2:a<=1:=by omega
  clear p;go_enter func357,ntmps357;go_wp2_with fail;refine gF HW.o ?_;rintro w' rfl;go_wp2_with fail;refine gF r.o ?_;rintro w' ⟨f,o⟩;have m:=aH f;have q:=aH o;clear f o;go_wp2;go_ret;exact⟨rfl,m.o,q.o⟩
 |false=>
  have j:iW first b k=0:=by unfold iW;rw[d];rfl
  have g:A.SA first b k a=A:=by unfold AR.SA;rw[d];rfl
  have c:A.Sy first b k a=0:=by unfold AR.Sy;rw[d];rfl
  rw[g,c];rw[j] at HW;have m:=aH l;clear h l d j g c p;go_enter func357,ntmps357;go_wp2_with fail;refine gF HW.o ?_;rintro w' rfl;go_wp2;go_ret;exact⟨rfl,m.o,aF⟩
def AR.Tw(A:AR)(nodes:Int):Int:=if nodes<1\/32<nodes then 1 else A.RU (2*nodes)
theorem G1(h:ax w ab wb A)(a:Int)(d:A.Tw a=0):
 Calls prog 107 #[some ab,a] w λe w'=>∃gb,e= .returned (.tuple #[some gb,(0:Int)])/\w.heap.size<=gb/\
  mT w' gb ab (A.taken+1) a.toNat/\ax w' ab wb (A.take (2*a))/\af [ab,wb] w w':=by
 have b:¬(a<1\/32<a):=by intro r;unfold AR.Tw at d;rw[ad r] at d;omega
 have k:A.RU (2*a)=0:=by unfold AR.Tw at d;rwa [ac b] at d
 have h1:¬a<1:=by omega
 have h2:¬32<a:=by omega
 have d1:decide (a<1)=false:=by simp;omega
 have d2:decide (32<a)=false:=by simp;omega
 have hn:A.takeN (2*a)=(A.taken:Int)+1:=by unfold AR.takeN;rw[ad k]
 have j:=fL h (2*a);rw[k,hn] at j;have o:=aH j;have s:=h.le;have l:=h.room;have q:=h.box.lt;have t:=h.row.lt;clear h d k j hn b;go_enter func107,ntmps107;go_wp2_with fail;refine gF o.o ?_;rintro w1 ⟨c,i⟩;have m:=i.size;have n:=aH i;have g:=aH c;clear c i;go_wp2;go_ret2;refine⟨w1.heap.size,rfl,m,?_,?_,n.o.alloc _⟩
 ·have f:=aq.new w1 #[some ab,((A.taken:Int)+1:Int),a] 268;refine{box:=?_,SI:=by omega,SJ:=by omega,Tm:=by omega};have p:((a.toNat:Nat):Int)=a:=by omega
  rw[p];simpa using f
 ·exact{g.o with box:=g.o.box.alloc _,row:=g.o.row.alloc _}
theorem yf(h:mT w gb ab first a)(c:ax w ab wb A)(k:Int):
 Calls prog 344 #[some gb,k] w λe w'=>e= .returned (.tuple #[])/\ax w' ab wb (A.RF first a k 0)/\af [ab,wb] w w':=by
 have i:=aH (vO h c k 0 aO);clear h c;go_enter func344,ntmps344;go_wp2_with fail;refine gF i.o ?_;rintro w' ⟨b,d⟩;have f:=aH b;have g:=aH d;clear b d;go_wp2;go_end0;exact⟨rfl,f.o,g.o⟩
theorem AW(h:mT w gb ab first a)(c:ax w ab wb A)(k:Int):
 Calls prog 345 #[some gb,k] w λe w'=>e= .returned (.tuple #[])/\ax w' ab wb (A.RF first a k 1)/\af [ab,wb] w w':=by
 have i:=aH (vO h c k 1 aO);clear h c;go_enter func345,ntmps345;go_wp2_with fail;refine gF i.o ?_;rintro w' ⟨b,d⟩;have f:=aH b;have g:=aH d;clear b d;go_wp2;go_end0;exact⟨rfl,f.o,g.o⟩
theorem G0(h:mT w gb ab first a)(c:ax w ab wb A)(k:Int):
 Calls prog 355 #[some gb,k] w λe w'=>e= .returned (A.Sy first a k 0:Int)/\ax w' ab wb (A.SA first a k 0)/\af [ab,wb] w w':=by
 have i:=aH (tC h c k 0 aO);clear h c;go_enter func355,ntmps355;go_wp2_with fail;refine gF i.o ?_;rintro w' ⟨b,d⟩;have f:=aH b;have g:=aH d;clear b d;go_wp2;go_ret;exact⟨rfl,f.o,g.o⟩
theorem Dk(h:mT w gb ab first a)(c:ax w ab wb A)(k:Int):
 Calls prog 354 #[some gb,k] w λe w'=>e= .returned (A.Sy first a k 1:Int)/\ax w' ab wb (A.SA first a k 1)/\af [ab,wb] w w':=by
 have i:=aH (tC h c k 1 aO);clear h c;go_enter func354,ntmps354;go_wp2_with fail;refine gF i.o ?_;rintro w' ⟨b,d⟩;have f:=aH b;have g:=aH d;clear b d;go_wp2;go_ret;exact⟨rfl,f.o,g.o⟩
end Go.Proofs.YteijjhahgabalaaGreat
