/- The contracts of package hmcs: down, begin. (Printed by gen_hmdo.py.) -/
import Derived.WalkMore
import Derived.Test.YteijjhahgabalaaGreatWF25
import Derived.Test.YteijjhahgabalaaGreatWF23
import Derived.Test.YteijjhahgabalaaGreatWF24
set_option maxRecDepth 100000
set_option maxHeartbeats 8000000
set_option linter.all false
namespace Go.Proofs.YteijjhahgabalaaGreat
open Go.RowKit
open Tryz
section
variable{w w':World}{B:p6}{M:eD}{X:fB}{j l:Nat}
theorem Hd(h:bQ w B M X)(hj:j<M.n)(a:X.S j 3=0):mU B M 244 #[some B.lb,j] w (.tuple #[]) {X with S:=aa X.S j 0 0}:=by
 unfold mU;have c3:=h.c3;obtain⟨c,d,e,b⟩:=h.sp hj;rw[a] at b;have f:=h.row.frozen;have hn:=h.Ry;obtain⟨d1,d2,d3⟩:=aI (j:=j) (n:=M.n);have l1:(j:Int)<M.n:=by omega
 have H:=aH h;clear h a;go_enter func244,ntmps244;go_wp2;exact eO (Ao rfl _ _ _) rfl ⟨rfl,H.o.Sz j 0,bQ.Sb M⟩
theorem He(h:bQ w B M X)(hj:j<M.n){c:Nat}(H:X.S j 3=((c:Int)+1))(hl:c<M.d j):mU B M 244 #[some B.lb,j] w (.tuple #[]) {X with R:=cY M X.R j c 11 (-1),S:=aa (aa X.S j 3 c) j 0 12}:=by
 unfold mU;have c3:=h.c3;obtain⟨O,P,Q,m⟩:=h.sp hj;rw[H] at m;have T:=h.row.frozen;have I:=(h.ok.d1 j hj).2;have hn:=h.Ry;obtain⟨d1,d2,d3⟩:=aI (j:=j) (n:=M.n);have l1:(j:Int)<M.n:=by omega
 have m1:decide (M.d j<=c)=false:=aB;have m2:decide ((M.d j:Int)<=((c:Nat):Int))=false:=aB;have m3:((c:Nat):Int)<M.d j:=by omega
 have m5:decide (((c:Nat):Int)<0)=false:=aB;have e1:((c:Int)+1==0)=false:=by simp;omega
 have b:=(h.put j (t:=3) aO (c:Int)).Sz j 12;have HJ:=aH hj;have D:=aH hl;obtain⟨cap,E,k2,W,U,V⟩:=b.Sk HJ.o (l:=c) D.o;have p:=aH b;have N:=b.Uq hj (v:=(c:Int)) (by show aa (aa X.S j 3 c) j 0 12 j 3=c;simp[aa]);have J:=aH (show af (xy B M) w ((w.setCell (B.sb,j*4+3) (.int .i64 (c:Int))).setCell (B.sb,j*4) (.int .i64 12)) from(bQ.Sb M).trans (bQ.Sb M));clear h H hj hl b;go_enter func244,ntmps244;go_wp2_with fail;clear c3 O P Q m T;generalize(w.setCell (B.sb,j*4+3) (.int .i64 (c:Int))).setCell (B.sb,j*4) (.int .i64 12)=w1 at*;have m:=N;have s:=aW [] w1;have x:=λq:HW (λa=>af [] w1 a)=>q.h.cell k2 aS;have C:=λq:HW (λa=>af [] w1 a)=>q.h.cell W aS;have z:=λq:HW (λa=>af [] w1 a)=>q.h.cell U aS;have A:=λq:HW (λa=>af [] w1 a)=>q.h.cell V aS;have u:=λq:HW (λa=>af [] w1 a)=>q.h.cell m aS;go_wp2_with fail;refine cO (S:=(λa=>af [] w1 a)) aK ?_;refine eQ (fuel:=2) [0,1,2,3,4,5,6,7,8,9,10,11,12] rfl aF.Rs ?_;refine aL 13 (fuel:=1) rfl ?_;go_wp2_with fail;refine ah ⟨aE,?_⟩;refine aL 14 (fuel:=0) rfl ?_;go_wp2_with fail;refine ah ⟨aE,?_⟩;refine aN ?_;clear s x C z A u;have f:af [] w1 ((w1.alloc (.cells #[some (B.rl (M.pl j c)),(M.sl j c:Int)] 215)).drew):=(aF.alloc _).Rs;have g:=(aq.new w1 #[some (B.rl (M.pl j c)),(M.sl j c:Int)] 215).Rs;have b0:=g.cell (i:=0) rfl;have b1:=g.cell (i:=1) rfl;have Z:=aH g;have d:=aH f;clear f g;generalize(w1.alloc (.cells #[some (B.rl (M.pl j c)),(M.sl j c:Int)] 215)).drew=Y at*;obtain⟨r,e⟩:=tG (p.o.same d.o) HJ.o D.o (-1);have o:=aH e;clear e;go_wp2_with fail;refine gF o.o ?_;rintro w3 ⟨G,F⟩;have L:=aH (ae G (J.o.trans ((d.o.mono aS).trans F)));clear G F;go_wp2;go_end0;exact⟨rfl,L.o⟩
def fx(M:eD)(X:fB)(j:Nat):Nat->Nat->Nat
 | 0,l=>l
 |f+1,l=>if l+1=M.d j\/dG M X j l 1<=M.bud then l else fx M X j f (l+1)
def gz(M:eD)(X:fB)(j l:Nat):Nat:=fx M X j (M.d j - l) l
theorem tH(hl:l<M.d j)(h:l+1=M.d j\/dG M X j l 1<=M.bud):gz M X j l=l:=by
 unfold gz;obtain⟨f,a⟩:∃f,M.d j - l=f+1:=⟨M.d j - l - 1,by omega⟩
 rw[a];unfold fx;rw[ad h]
theorem A6(hl:l<M.d j)(h:¬(l+1=M.d j\/dG M X j l 1<=M.bud)):gz M X j (l+1)=gz M X j l:=by
 have e:gz M X j l=fx M X j (M.d j - l) l:=rfl;obtain⟨f,a⟩:∃f,M.d j - l=f+1:=⟨M.d j - l - 1,by omega⟩
 rw[e,a];unfold fx;rw[ac h];unfold gz;rw[show M.d j - (l+1)=f by omega]
def gZ(M:eD)(X:fB)(j l:Nat):fB:=
 if l+1=M.d j then{X with R:=cY M X.R j l 11 1,S:=aa (aa X.S j 3 l) j 0 12}
 else{X with R:=cY M X.R j l 15 (wrap64 (dG M X j l 1+1)),S:=aa (aa X.S j 3 l) j 0 11}
def es(M:eD)(X:fB)(j l:Nat):fB:=gZ M X j (gz M X j l)
theorem E7(S:Nat->Nat->Int)(j t:Nat):aa S j t (S j t)=S:=by
 funext a b
 unfold aa
 split
 ·rename_i h;rw[h.1,h.2]
 ·rfl
theorem pw(S:Nat->Nat->Int)(j:Nat)(a b:Int):aa (aa S j 3 a) j 3 b=aa S j 3 b:=by
 funext x y
 simp only[aa]
 split<;>rfl
theorem zo(h:bQ w B M X)(hj:j<M.n){l0:Nat}(hl:l0<M.d j):mU B M 241 #[some B.lb,j,l0] w (.tuple #[]) (es M X j l0):=by
 unfold mU;have c3:=h.c3;have hn:=h.Ry;obtain⟨d1,d2,d3⟩:=aI (j:=j) (n:=M.n);have l1:(j:Int)<M.n:=by omega
 have hd40:=(h.ok.d1 j hj).2;have L:=h.ok.bud;have HJ:=aH hj;have HL:=aH hl;have H:=aH h;obtain⟨cap,I,k2,kv,kr,ks⟩:=h.Sk hj (l:=l0) hl;have Y:∃dd:Nat,dd=M.d j:=⟨_,rfl⟩
 clear h hj hl Y kr ks;go_enter func241,ntmps241;go_wp2_with fail
 go_step3
 go_wp2_with fail
 go_quiet (fail)
 have K:=H.o.same ((af.refl [] w).drew nq);have F0:=aH ((af.refl (xy B M) w).drew nq);generalize w.drewN nq=w0 at*;have U:=aH K;clear K c3 k2 kv;go_wp2_with fail
 go_step3
 go_wp2_with fail;go_loopw[2] (λlv wr=>∃(l:Nat)(cc:Int),lv= .int .i64 l/\l<M.d j/\gz M X j l=gz M X j l0/\bQ wr B M {X with S:=aa X.S j 3 cc}/\af (xy B M) w wr) (λlv _=>M.d j - (intOf lv).toNat)
 case atStart=>exact⟨l0,X.S j 3,rfl,HL.o,rfl,by rw[E7];exact U.o,F0.o⟩
 case round=>
  obtain⟨l,cc,rfl,hl,O,J,W⟩:=hrel;have x:=aH O;have g:=aH hl;have HX:=aH J;have HF:=aH W;obtain⟨cap,I,k2,kv,kr,ks⟩:=J.Sk HJ.o (l:=l) g.o;have N:=J.UH;have hB:=aq.new wr #[some (B.rl (M.pl j l)),(M.sl j l:Int)] 215;have A:af [] wr (wr.alloc (.cells #[some (B.rl (M.pl j l)),(M.sl j l:Int)] 215)):=aF.alloc _;have h2:=J.same A;have fa:=yP;have hbd:M.bud<=1000:=L.2;have m1:decide (M.d j<=l)=false:=aB;have m2:decide ((M.d j:Int)<=((l:Nat):Int))=false:=aB;have m3:((l:Nat):Int)<M.d j:=by omega
  have m5:decide (((l:Nat):Int)<0)=false:=aB;have k:=aH (jZ h2 HJ.o g.o);have y:=aH h2;have T:=aH hB;have HLV:=aH N;have P:=aH (W.trans (A.mono aS));have s:dG M {X with S:=aa X.S j 3 cc} j l 1=dG M X j l 1:=rfl;rw[s] at k;generalize dG M {X with S:=aa X.S j 3 cc} j l 0=q0 at k;generalize dG M {X with S:=aa X.S j 3 cc} j l 2=q2 at k;generalize dG M {X with S:=aa X.S j 3 cc} j l 3=q3 at k;clear J W O hl hB A h2 N s;have Z:=g.o;obtain⟨v,hv⟩:∃v,v=dG M X j l 1:=⟨_,rfl⟩
  rw[<-hv] at k;have HV:=aH hv;clear hv;by_cases ht:l+1=M.d j
  ·have e1:((l:Int)==(M.d j:Int) - 1)=true:=by simp;omega
   have E:=aH (show es M X j l0={X with R:=cY M X.R j l 11 1,S:=aa (aa X.S j 3 l) j 0 12} from by unfold es;rw[<-x.o,tH g.o (.inl ht)];unfold gZ;rw[ad ht]);clear ht;go_wp2_with fail;refine gF k.o ?_;rintro w1 b;have a:=y.o.same b;have c:=T.o.Rr b aS;obtain⟨j0,j1,j2,j3⟩:=a.sp HJ.o;have jz:=a.row.frozen;have c0:=a.c0;have e:=a.put j (t:=3) aO (l:Int);have G:=e.c0;have d:=c.Rr (S:=[B.sb]) ((af.refl [B.sb] w1).set ⟨B.sb,j*4+3,none⟩ (.int .i64 (l:Int)) (.inl aS)) (by have:=c.differ a.row aJ;simp;omega);have b0:=d.cell (i:=0) rfl;have b1:=d.cell (i:=1) rfl;have D:=aH ((P.o.trans (b.mono aS)).trans (bQ.Sb M (o:=j*4+3) (v:=.int .i64 (l:Int))));have q:aa (aa X.S j 3 cc) j 3 l=aa X.S j 3 l:=pw _ _ _ _;obtain⟨r,p⟩:=tG e HJ.o g.o 1;have u:=aH p;have C:=aH q;clear a c e d b p q;go_wp2_with fail;refine gF u.o ?_;rintro w4 ⟨f,m⟩;have c3:=f.c3;obtain⟨i0, -, -, -⟩:=f.sp HJ.o;have iz:=f.row.frozen;have z:=aH (f.Sz j 12);have Q:=aH ((D.o.trans m).trans (bQ.Sb M (o:=j*4) (v:=.int .i64 12)));clear f m;go_wp2;rw[Exit.noGoto_normal];go_end0;rw[E.o];refine⟨rfl,?_,Q.o⟩;have:=z.o;simp only[C.o] at this;exact this
  ·by_cases hv:dG M X j l 1<=M.bud
   ·have e1:((l:Int)==(M.d j:Int) - 1)=false:=by simp;omega
    have e2:decide (v<=M.bud)=true:=by rw[HV.o];exact ef hv
    have E:=aH (show es M X j l0={X with R:=cY M X.R j l 15 (wrap64 (v+1)),S:=aa (aa X.S j 3 l) j 0 11} from by unfold es;rw[<-x.o,tH g.o (.inr hv)];unfold gZ;rw[ac ht,HV.o]);clear ht hv;go_wp2_with fail;refine gF k.o ?_;rintro w1 b;have a:=y.o.same b;have c:=T.o.Rr b aS;obtain⟨j0,j1,j2,j3⟩:=a.sp HJ.o;have jz:=a.row.frozen;have c0:=a.c0;have e:=a.put j (t:=3) aO (l:Int);have G:=e.c0;have d:=c.Rr (S:=[B.sb]) ((af.refl [B.sb] w1).set ⟨B.sb,j*4+3,none⟩ (.int .i64 (l:Int)) (.inl aS)) (by have:=c.differ a.row aJ;simp;omega);have b0:=d.cell (i:=0) rfl;have b1:=d.cell (i:=1) rfl;have D:=aH ((P.o.trans (b.mono aS)).trans (bQ.Sb M (o:=j*4+3) (v:=.int .i64 (l:Int))));have q:aa (aa X.S j 3 cc) j 3 l=aa X.S j 3 l:=pw _ _ _ _;obtain⟨r,p⟩:=DF e HJ.o g.o (wrap64 (v+1));have u:=aH p;have C:=aH q;clear a c e d b p q;go_wp2_with fail;refine gF u.o ?_;rintro w4 ⟨f,m⟩;have c3:=f.c3;obtain⟨i0, -, -, -⟩:=f.sp HJ.o;have iz:=f.row.frozen;have z:=aH (f.Sz j 11);have Q:=aH ((D.o.trans m).trans (bQ.Sb M (o:=j*4) (v:=.int .i64 11)));clear f m;go_wp2;rw[Exit.noGoto_normal];go_end0;rw[E.o];refine⟨rfl,?_,Q.o⟩;have:=z.o;simp only[C.o] at this;exact this
   ·have e1:((l:Int)==(M.d j:Int) - 1)=false:=by simp;omega
    have e2:decide (v<=M.bud)=false:=by rw[HV.o];exact dh hv
    have E:=aH (show gz M X j (l+1)=gz M X j l0 from(A6 g.o (λh=>h.elim ht hv)).trans x.o);have F:=aH (show l+1<M.d j by omega);clear ht hv;go_wp2_with fail;refine gF k.o ?_;rintro w1 b;have a:=y.o.same b;have c:=T.o.Rr b aS;obtain⟨j0,j1,j2,j3⟩:=a.sp HJ.o;have jz:=a.row.frozen;have c0:=a.c0;have e:=a.put j (t:=3) aO (l:Int);have G:=e.c0;have d:=c.Rr (S:=[B.sb]) ((af.refl [B.sb] w1).set ⟨B.sb,j*4+3,none⟩ (.int .i64 (l:Int)) (.inl aS)) (by have:=c.differ a.row aJ;simp;omega);have b0:=d.cell (i:=0) rfl;have b1:=d.cell (i:=1) rfl;have D:=aH ((P.o.trans (b.mono aS)).trans (bQ.Sb M (o:=j*4+3) (v:=.int .i64 (l:Int))));have q:aa (aa X.S j 3 cc) j 3 l=aa X.S j 3 l:=pw _ _ _ _;have V:=aH e;have C:=aH q;clear a c e d b q;go_wp2_with fail;go_roundw
    case rel=>exact⟨l+1,(l:Int),by go_num,F.o,E.o,by have:=V.o;simp only[C.o] at this;exact this,D.o⟩
    case measure=>have:=F.o;simp[intOf];omega
end
section
variable{w w':World}{B:p6}{M:eD}{X:fB}{j l:Nat}
def i1(M:eD)(X:fB)(j:Nat):fB:=if X.S j 0=10 then es M X j 0 else X
def o8(M:eD)(X:fB)(j c:Nat):fB:=if dG M X j c 2=0\/c+1=M.d j then{X with S:=aa X.S j 0 10} else{X with R:=eR M X.R j (c+1),S:=aa X.S j 3 ((c:Int)+1)}
def kI(M:eD)(X:fB)(j c:Nat):fB:=if c=0 then{X with S:=aa X.S j 0 0} else{X with R:=cY M X.R j (c - 1) 11 (-1),S:=aa (aa X.S j 3 ((c - 1:Nat):Int)) j 0 12}
def iY(M:eD)(X:fB)(j c:Nat)(was:Int):fB:=if was=1 then o8 M X j c else if dG M X j c 0=0 then kI M X j c else es M X j (c+1)
def eK(M:eD)(X:fB)(j c:Nat):fB:=if X.S j 0=0\/X.S j 0=10 then X else if fn M X j c=false then bH M X j c else iY M (bH M X j c) j c (X.S j 0)
def rN(M:eD)(X:fB)(j c:Nat):Bool:= !decide (X.S j 0=0\/X.S j 0=10)&&(fn M X j c&&(((eK M X j c).S j 0==10)||((eK M X j c).S j 0==0)))
theorem Hf(h:bQ w B M X)(hj:j<M.n):mU B M 235 #[some B.lb,j] w (.bool (X.S j 0==10)) (i1 M X j):=by
 unfold mU;have r:=dF;have H:=aH h;have HJ:=aH hj;have hd:=(h.ok.d1 j hj).1;have p:=aH hd;have d:=rM h hj;have hn:=h.Ry;obtain⟨d1,d2,d3⟩:=aI (j:=j) (n:=M.n);have l1:(j:Int)<M.n:=by omega
 by_cases c:X.S j 0=10
 ·have e:(X.S j 0==10)=true:=by simpa using c
  have i:=aH (show i1 M X j=es M X j 0 from ad c);rw[e];rw[c] at d;have k:=aH d;clear h hj d c hd e;go_enter func235,ntmps235;go_wp2_with fail;refine gF k.o ?_;rintro w1 b;have f:=H.o.same b;have m:=aH (zo f HJ.o p.o);have o:=aH b;clear f b;go_wp2_with fail;refine gF m.o ?_;rintro w2 ⟨f,b⟩;have g:=aH (ae f ((o.o.mono aS).trans b));clear f b;go_wp2;go_ret;rw[i.o];exact⟨rfl,g.o⟩
 ·have e:(X.S j 0==10)=false:=by simpa using c
  have q:(X.S j 0 !=10)=true:=by simpa using c
  have i:=aH (show i1 M X j=X from ac c);rw[e];obtain⟨a0,ha⟩:∃a,a=X.S j 0:=⟨_,rfl⟩
  rw[<-ha] at d q;have k:=aH d;clear h hj d c ha e;go_enter func235,ntmps235;go_wp2_with fail;refine gF k.o ?_;rintro w1 b;have g:=aH (ae (H.o.same b) b);clear b;go_wp2;go_ret;rw[i.o];exact⟨rfl,g.o.1,g.o.2.mono aS⟩
variable{c:Nat}
theorem Kr(h:bQ w B M X)(hj:j<M.n)(b:X.S j 3=(c:Nat))(hl:c<M.d j):mU B M 243 #[some B.lb,j] w (.tuple #[]) (o8 M X j c):=by
 unfold o8;by_cases a:dG M X j c 2=0
 ·rw[ad (.inl a)];exact Dw h hj b hl a
 ·by_cases ht:c+1=M.d j
  ·rw[ad (.inr ht)];exact Dx h hj b hl a ht
  ·rw[ac (λq=>q.elim a ht)];exact Hb h hj b hl a aO
theorem Ks(h:bQ w B M X)(hj:j<M.n)(a:X.S j 3=(c:Nat))(hl:c<M.d j):mU B M 244 #[some B.lb,j] w (.tuple #[]) (kI M X j c):=by
 unfold kI;cases c with
 |zero=>rw[ad rfl];exact Hd h hj a
 |succ c=>rw[ac aO];exact He h hj (by rw[a];omega) aO
theorem Hn(h:bQ w B M X)(hj:j<M.n)(a:X.S j 0=0\/X.S j 0=10):mU B M 237 #[some B.lb,j] w (.bool false) X:=by
 unfold mU;have f:=dF;have H:=aH h;have c:=rM h hj;have hn:=h.Ry;obtain⟨d1,d2,d3⟩:=aI (j:=j) (n:=M.n);have l1:(j:Int)<M.n:=by omega
 rcases a with a|a
 ·rw[a] at c;have e:=aH c;clear h hj c a;go_enter func237,ntmps237;go_wp2_with fail;refine gF e.o ?_;rintro w1 b;have d:=aH (ae (H.o.same b) b);clear b;go_wp2;go_ret;exact⟨rfl,d.o.1,d.o.2.mono aS⟩
 ·rw[a] at c;have e:=aH c;clear h hj c a;go_enter func237,ntmps237;go_wp2_with fail;refine gF e.o ?_;rintro w1 b;have d:=aH (ae (H.o.same b) b);clear b;go_wp2;go_ret;exact⟨rfl,d.o.1,d.o.2.mono aS⟩
theorem ms:(∀{w:World}{B:p6}{M:eD}{X:fB}{j:Nat}(h:bQ w B M X)(hj:j<M.n)(v:¬(X.S j 0=0\/X.S j 0=10)){c:Nat}(A:X.S j 3=(c:Nat))(hl:c<M.d j)(C:oh (dG M X j c 0))(D:fn M X j c=false),mU B M 237 #[some B.lb,j] w (.bool false) (bH M X j c))/\(∀{w:World}{B:p6}{M:eD}{X:fB}{j:Nat}(h:bQ w B M X)(hj:j<M.n)(v:¬(X.S j 0=0\/X.S j 0=10)){c:Nat}(A:X.S j 3=(c:Nat))(hl:c<M.d j)(C:oh (dG M X j c 0))(D:fn M X j c=true)(s:X.S j 0=1),∃p:Int,p=(o8 M (bH M X j c) j c).S j 0/\mU B M 237 #[some B.lb,j] w (.bool ((p==10)||(p==0))) (o8 M (bH M X j c) j c))/\(∀{w:World}{B:p6}{M:eD}{X:fB}{j:Nat}(h:bQ w B M X)(hj:j<M.n)(v:¬(X.S j 0=0\/X.S j 0=10)){c:Nat}(A:X.S j 3=(c:Nat))(hl:c<M.d j)(C:oh (dG M X j c 0))(D:fn M X j c=true)(s:X.S j 0≠1)(J:dG M (bH M X j c) j c 0=0),∃p:Int,p=(kI M (bH M X j c) j c).S j 0/\mU B M 237 #[some B.lb,j] w (.bool ((p==10)||(p==0))) (kI M (bH M X j c) j c))/\(∀{w:World}{B:p6}{M:eD}{X:fB}{j:Nat}(h:bQ w B M X)(hj:j<M.n)(v:¬(X.S j 0=0\/X.S j 0=10)){c:Nat}(A:X.S j 3=(c:Nat))(hl:c<M.d j)(C:oh (dG M X j c 0))(D:fn M X j c=true)(s:X.S j 0≠1)(J:dG M (bH M X j c) j c 0≠0)(ht:c+1<M.d j),∃p:Int,p=(es M (bH M X j c) j (c+1)).S j 0/\mU B M 237 #[some B.lb,j] w (.bool ((p==10)||(p==0))) (es M (bH M X j c) j (c+1))):=by
 refine⟨?_,?_,?_,?_⟩;intro w B M X j h hj v c A hl C D;rotate_left;intro w B M X j h hj v c A hl C D s;refine⟨_,rfl,?_⟩;have P:=aH (show True from trivial);rotate_left;intro w B M X j h hj v c A hl C D s J;refine⟨_,rfl,?_⟩;have P:=aH (show True from trivial);rotate_left;intro w B M X j h hj v c A hl C D s J ht;refine⟨_,rfl,?_⟩;have P:=aH (show True from trivial);rotate_left;all_goals
  unfold mU;have fd:=dF;have hnot:= @aX prog;have HJ:=aH hj;have F:=aH hl;have hS:=rM h hj;have hn:=h.Ry;obtain⟨d1,d2,d3⟩:=aI (j:=j) (n:=M.n);have l1:(j:Int)<M.n:=by omega
  have m1:decide (M.d j<=c)=false:=aB;have m2:decide ((M.d j:Int)<=((c:Nat):Int))=false:=aB;have m3:((c:Nat):Int)<M.d j:=by omega
  have m5:decide (((c:Nat):Int)<0)=false:=aB;have hd40:=(h.ok.d1 j hj).2;have e1:(X.S j 0==0)=false:=by simpa using λq=>v (.inl q)
  have e2:(X.S j 0==10)=false:=by simpa using λq=>v (.inr q)
 rotate_left;have e3:(X.S j 0==1)=true:=by simpa using s
 clear s;rotate_left;have e3:(X.S j 0==1)=false:=by simpa using s
 have e4:(dG M (bH M X j c) j c 0==0)=true:=by simpa using J
 clear s J;rotate_left;have e3:(X.S j 0==1)=false:=by simpa using s
 have e4:(dG M (bH M X j c) j c 0==0)=false:=by simpa using J
 have HT:=aH ht;clear s J ht;rotate_left;all_goals
  obtain⟨a0,ha⟩:∃a,a=X.S j 0:=⟨_,rfl⟩
  rw[<-ha] at*;have HS:=aH hS;have H:=aH h;have u:=aH A;have HP:=aH C;have HR:=aH D;clear h hj hl hS A C D v ha;go_enter func237,ntmps237;go_wp2_with fail;refine gF HS.o ?_;rintro w1 b;have e:=H.o.same b;have c3:=e.c3;have HX:=aH e;have F1:=aH b;have x:=e.Uq HJ.o u.o;obtain⟨cap,cap',k2,kv,kr,ks⟩:=e.Sk HJ.o (l:=c) F.o;clear e b;have Y:=aW [] w1;have zk2:=λq:HW (λt=>af [] w1 t)=>q.h.cell k2 aS;have zkv:=λq:HW (λt=>af [] w1 t)=>q.h.cell kv aS;have zkr:=λq:HW (λt=>af [] w1 t)=>q.h.cell kr aS;have zks:=λq:HW (λt=>af [] w1 t)=>q.h.cell ks aS;have Z:=λq:HW (λt=>af [] w1 t)=>q.h.cell x aS;go_wp2_with fail;refine cO (S:=(λt=>af [] w1 t)) aK ?_;refine eQ (fuel:=2) [0,1,2,3,4,5,6,7,8,9,10,11,12] rfl aF.Rs ?_;refine aL 13 (fuel:=1) rfl ?_;go_wp2_with fail;refine ah ⟨aE,?_⟩;refine aL 14 (fuel:=0) rfl ?_;go_wp2_with fail;refine ah ⟨aE,?_⟩;refine aN ?_;clear Y zk2 zkv zkr zks Z;have Q:af [] w1 ((w1.alloc (.cells #[some (B.rl (M.pl j c)),(M.sl j c:Int)] 215)).drew):=(aF.alloc _).Rs;have U:=(aq.new w1 #[some (B.rl (M.pl j c)),(M.sl j c:Int)] 215).Rs;have b0:=U.cell (i:=0) rfl;have b1:=U.cell (i:=1) rfl;have T:=aH U;have O:=aH Q;clear Q U;generalize(w1.alloc (.cells #[some (B.rl (M.pl j c)),(M.sl j c:Int)] 215)).drew=w1a at*;have I:=HX.o.same O.o;have V:=aH (I.free.not T.o);have G:=DH I HJ.o F.o HP.o;rw[HR.o] at G;have W:=aH G;have R:=aH ((F1.o.trans O.o).mono (S':=xy B M) aS);clear I G;go_wp2_with fail;refine gF W.o ?_;rintro w3 ⟨e,b⟩
 have H3:=aH (ae e (R.o.trans b));rotate_left
 focus
  have f:=T.o.Rr b V.o;have b0:=f.cell (i:=0) rfl;have b1:=f.cell (i:=1) rfl;have x:w3.cell? (B.sb,j*4+3)=some (.int .i64 (c:Nat)):=e.Uq HJ.o u.o;have d:=aH e;have g:=jZ e HJ.o F.o;obtain⟨q0,m⟩:∃q,q=dG M (bH M X j c) j c 0:=⟨_,rfl⟩
  rw[<-m] at*;have r:=aH g;have L:=aH (R.o.trans b);clear e b f g m;go_wp2_with fail;refine gF r.o ?_;rintro w4 b;have d:=aH (d.o.same b);have z:=aH (show(bH M X j c).S j 3=(c:Nat) from u.o);have x:=d.o.Uq HJ.o u.o;have N:=aH (L.o.trans (b.mono aS));have o:=aH (Kr d.o HJ.o z.o F.o);clear b;go_wp2_with fail;refine gF o.o ?_;rintro w5 ⟨e,b⟩;have E:=aH (ae e (N.o.trans b));obtain⟨i0, -, -, -⟩:=e.sp HJ.o;have x:=True.intro
 rotate_left
 focus
  have f:=T.o.Rr b V.o;have b0:=f.cell (i:=0) rfl;have b1:=f.cell (i:=1) rfl;have x:w3.cell? (B.sb,j*4+3)=some (.int .i64 (c:Nat)):=e.Uq HJ.o u.o;have d:=aH e;have g:=jZ e HJ.o F.o;obtain⟨q0,m⟩:∃q,q=dG M (bH M X j c) j c 0:=⟨_,rfl⟩
  rw[<-m] at*;have r:=aH g;have L:=aH (R.o.trans b);clear e b f g m;go_wp2_with fail;refine gF r.o ?_;rintro w4 b;have d:=aH (d.o.same b);have z:=aH (show(bH M X j c).S j 3=(c:Nat) from u.o);have x:=d.o.Uq HJ.o u.o;have N:=aH (L.o.trans (b.mono aS));have o:=aH (Ks d.o HJ.o z.o F.o);clear b;go_wp2_with fail;refine gF o.o ?_;rintro w5 ⟨e,b⟩;have E:=aH (ae e (N.o.trans b));obtain⟨i0, -, -, -⟩:=e.sp HJ.o;have x:=True.intro
 rotate_left
 focus
  have f:=T.o.Rr b V.o;have b0:=f.cell (i:=0) rfl;have b1:=f.cell (i:=1) rfl;have x:w3.cell? (B.sb,j*4+3)=some (.int .i64 (c:Nat)):=e.Uq HJ.o u.o;have d:=aH e;have g:=jZ e HJ.o F.o;obtain⟨q0,m⟩:∃q,q=dG M (bH M X j c) j c 0:=⟨_,rfl⟩
  rw[<-m] at*;have r:=aH g;have L:=aH (R.o.trans b);clear e b f g m;go_wp2_with fail;refine gF r.o ?_;rintro w4 b;have d:=aH (d.o.same b);have z:=aH (show(bH M X j c).S j 3=(c:Nat) from u.o);have x:=d.o.Uq HJ.o u.o;have N:=aH (L.o.trans (b.mono aS));have o:=aH (zo d.o HJ.o HT.o);clear b;go_wp2_with fail;refine gF o.o ?_;rintro w5 ⟨e,b⟩;have E:=aH (ae e (N.o.trans b));obtain⟨i0, -, -, -⟩:=e.sp HJ.o;have x:=True.intro
 rotate_left;all_goals
  clear e b
 ·go_wp2;go_ret;exact⟨rfl,H3.o⟩
 ·by_cases p1:(o8 M (bH M X j c) j c).S j 0=10
  ·rw[p1] at i0;go_wp2;go_ret;exact⟨by rw[p1];rfl,E.o⟩
  ·have p2:((o8 M (bH M X j c) j c).S j 0==10)=false:=by simpa using p1
   clear p1;go_wp2;go_ret;exact⟨by rw[p2];rfl,E.o⟩
 ·by_cases p1:(kI M (bH M X j c) j c).S j 0=10
  ·rw[p1] at i0;go_wp2;go_ret;exact⟨by rw[p1];rfl,E.o⟩
  ·have p2:((kI M (bH M X j c) j c).S j 0==10)=false:=by simpa using p1
   clear p1;go_wp2;go_ret;exact⟨by rw[p2];rfl,E.o⟩
 ·by_cases p1:(es M (bH M X j c) j (c+1)).S j 0=10
  ·rw[p1] at i0;go_wp2;go_ret;exact⟨by rw[p1];rfl,E.o⟩
  ·have p2:((es M (bH M X j c) j (c+1)).S j 0==10)=false:=by simpa using p1
   clear p1;go_wp2;go_ret;exact⟨by rw[p2];rfl,E.o⟩
def Hm:= @ms.1
def Hk:= @ms.2.1
def Hl:= @ms.2.2.1
def Hj:= @ms.2.2.2
def dk(X:fB)(j:Nat):Nat:=(X.S j 3).toNat
def MF(M:eD)(X:fB)(j:Nat):Prop:=¬(X.S j 0=0\/X.S j 0=10)->0<=X.S j 3/\dk X j<M.d j/\oh (dG M X j (dk X j) 0)/\(fn M X j (dk X j)=true->X.S j 0≠1->dG M (bH M X j (dk X j)) j (dk X j) 0≠0->dk X j+1<M.d j)
theorem Kt(h:bQ w B M X)(hj:j<M.n)(g:MF M X j):mU B M 237 #[some B.lb,j] w (.bool (rN M X j (dk X j))) (eK M X j (dk X j)):=by
 unfold rN eK;by_cases a:X.S j 0=0\/X.S j 0=10
 ·rw[ad a,ef a];exact Hn h hj a
 ·obtain⟨g1,g2,g3,g4⟩:=g a;have f:X.S j 3=(dk X j:Nat):=by unfold dk;omega
  rw[ac a,dh a];cases e:fn M X j (dk X j) with
  |false=>rw[ad rfl];exact Hm h hj a f g2 g3 e
  |true=>
   rw[ac aS];unfold iY;by_cases b:X.S j 0=1
   ·rw[ad b];obtain⟨p,rfl,c⟩:=Hk h hj a f g2 g3 e b;exact c
   ·rw[ac b];by_cases d:dG M (bH M X j (dk X j)) j (dk X j) 0=0
    ·rw[ad d];obtain⟨p,rfl,c⟩:=Hl h hj a f g2 g3 e b d;exact c
    ·rw[ac d];obtain⟨p,rfl,c⟩:=Hj h hj a f g2 g3 e b d (g4 e b d);exact c
end
structure xx(M:eD):Prop where
 up:∀t u l l',t<M.n->u<M.n->l<M.d t->l'<M.d u->M.pl t l=M.pl u l'->M.d t+l'=M.d u+l/\∀k,0<k->l+k<M.d t->M.pl t (l+k)=M.pl u (l'+k)/\M.sl t (l+k)=M.sl u (l'+k)
 dn:∀t u l l',t<M.n->u<M.n->l<M.d t->l'<M.d u->M.pl t l=M.pl u l'->M.sl t l=M.sl u l'->(l=0/\l'=0/\t=u)\/(0<l/\0<l'/\M.pl t (l - 1)=M.pl u (l' - 1))
 ok:M.Ok
 sz:∀v,v<M.nv->M.sz v<=32
def bB(M:eD)(R:Nat->Nat->Nat->Int)(t l:Nat):Int:=R (M.pl t l) (M.sl t l) 0
inductive HP
 |rest|Tf(c:Nat)|T3(c:Nat)|hold|pass(c:Nat)|out(c:Nat)|down(c:Nat)
def HP.ok(M:eD)(R:Nat->Nat->Nat->Int)(t:Nat):HP->Prop
 | .rest=>bB M R t 0=0
 | .Tf c=>c<M.d t/\(∀l,l<c->bB M R t l=10)/\1<=bB M R t c/\bB M R t c<=6
 | .T3 c=>c+1<M.d t/\(∀l,l<c+1->bB M R t l=10)/\bB M R t (c+1)=0
 | .hold=>∀l,l<M.d t->bB M R t l=10
 | .pass c=>c+1<M.d t/\(∀l,l<M.d t->l≠c->bB M R t l=10)/\(bB M R t c=15\/bB M R t c=16)
 | .out c=>c<M.d t/\(∀l,l<c->bB M R t l=10)/\(11<=bB M R t c/\bB M R t c<=14)/\R (M.pl t c) (M.sl t c) 3=if c+1=M.d t then 1 else -1
 | .down c=>c<M.d t/\(∀l,l<c->bB M R t l=10)/\bB M R t c=0
def Mt(M:eD)(A:AR)(R:Nat->Nat->Nat->Int):Prop:=∀v,v<M.nv->∃Q o,RI (M.sz v) (M.tl v) A (R v) Q o
def jN(M:eD)(R:Nat->Nat->Nat->Int)(t l:Nat):Prop:=∀k,k<l->bB M R t k=10\/bB M R t k=15\/bB M R t k=16
def vU(M:eD)(A:AR)(R:Nat->Nat->Nat->Int)(v:Nat):Prop:=jq (M.sz v) (cv (M.tl v) (M.sz v) A) (R v)
def pR(M:eD)(A:AR)(R:Nat->Nat->Nat->Int)(v:Nat):Prop:=iS (M.sz v) (cv (M.tl v) (M.sz v) A) (R v)
def FY(M:eD)(A:AR)(R:Nat->Nat->Nat->Int)(t l:Nat):Prop:=(vU M A R (M.pl t l)->l+1<M.d t->bB M R t (l+1)=0)/\(pR M A R (M.pl t l)->∀k,l<k->k<M.d t->bB M R t k=10)
section
variable{M:eD}{A A':AR}{R R':Nat->Nat->Nat->Int}{t u:Nat}
variable{l l':Nat}
theorem DL(T:xx M)(b:Mt M A R)(ht:t<M.n)(c:u<M.n)(hl:l<M.d t)(a:l'<M.d u)(e:M.pl t l=M.pl u l')(h1:6<=bB M R t l)(h2:6<=bB M R u l'):M.sl t l=M.sl u l':=by
 obtain⟨Q,o,h⟩:=b _ (T.ok.pl t l ht hl);have s2:=T.ok.sl u l' c a;unfold bB at h1 h2;rw[<-e] at s2 h2;exact h.one (T.ok.sl t l ht hl) s2 h1 h2
theorem Qg(T:xx M)(g:Mt M A R)(ht:t<M.n)(c:u<M.n):∀l l',l<M.d t->l'<M.d u->jN M R t l->jN M R u l'->M.pl t l=M.pl u l'->M.sl t l=M.sl u l'->t=u/\l=l'
 | 0,l',hl,a,_,_,d,f=>by
  rcases T.dn t u 0 l' ht c hl a d f with⟨_,q,r⟩|⟨q,_⟩
  ·exact⟨r,q.symm⟩
  ·omega
 |l+1,l',hl,a,lo,b,d,f=>by
  rcases T.dn t u (l+1) l' ht c hl a d f with⟨q,_⟩|⟨_,q,e⟩
  ·omega
  ·obtain⟨m,rfl⟩:∃m,l'=m+1:=⟨l' - 1,by omega⟩
   simp only[FQ] at e;have a1:=lo l aO;have a2:=b m aO;have h:=DL T g ht c aO aO e aO aO;obtain⟨j,n⟩:=Qg T g ht c l m aO aO (λk i=>lo k aO) (λk i=>b k aO) e h;exact⟨j,by omega⟩
theorem HP.Sm{p:HP}(d:p.ok M R u)(hd:0<M.d u)(b:∀k,k<M.d u->jN M R u k->R' (M.pl u k) (M.sl u k) 0=R (M.pl u k) (M.sl u k) 0/\R' (M.pl u k) (M.sl u k) 3=R (M.pl u k) (M.sl u k) 3):p.ok M R' u:=by
 have a:∀k,k<M.d u->jN M R u k->bB M R' u k=bB M R u k:=λk h1 h2=>(b k h1 h2).1;cases p with
 |rest=>exact(a 0 hd (λk h=>by omega)).trans d
 |Tf c=>
  obtain⟨h1,h2,h3⟩:=d;have lo:∀l,l<=c->jN M R u l:=λl hl k b=>.inl (h2 k aO);exact⟨h1,λl hl=>(a l aO (lo l aO)).trans (h2 l hl),by rw[a c h1 (lo c aO)];exact h3⟩
 |T3 c=>
  obtain⟨h1,h2,h3⟩:=d;have lo:∀l,l<=c+1->jN M R u l:=λl hl k b=>.inl (h2 k aO);exact⟨h1,λl hl=>(a l aO (lo l aO)).trans (h2 l hl),by rw[a (c+1) h1 (lo _ aO)];exact h3⟩
 |hold=>exactλl hl=>(a l hl (λk b=>.inl (d k aO))).trans (d l hl)
 |pass c=>
  obtain⟨h1,h2,h3⟩:=d;have lo:∀l,l<M.d u->jN M R u l:=λl hl k b=>by
   by_cases e:k=c
   ·subst e;exact .inr h3
   ·exact .inl (h2 k aO e)
  exact⟨h1,λl hl e=>(a l hl (lo l hl)).trans (h2 l hl e),by rw[a c aO (lo c aO)];exact h3⟩
 |out c=>
  obtain⟨h1,h2,h3,h4⟩:=d;have lo:∀l,l<=c->jN M R u l:=λl hl k b=>.inl (h2 k aO);exact⟨h1,λl hl=>(a l aO (lo l aO)).trans (h2 l hl),by rw[a c h1 (lo c aO)];exact h3,by rw[(b c h1 (lo c aO)).2];exact h4⟩
 |down c=>
  obtain⟨h1,h2,h3⟩:=d;have lo:∀l,l<=c->jN M R u l:=λl hl k b=>.inl (h2 k aO);exact⟨h1,λl hl=>(a l aO (lo l aO)).trans (h2 l hl),by rw[a c h1 (lo c aO)];exact h3⟩
theorem Qe(T:xx M)(b:Mt M A R)(ht:t<M.n)(a:u<M.n){l':Nat}:∀k l,l'<k->k<M.d u->l<M.d t->(∀m,m<l->bB M R t m=10)->(∀m,l'<m->m<k->bB M R u m=10)->M.pl u k=M.pl t l->M.sl u k=M.sl t l->∃m,m<l/\M.pl t m=M.pl u l'
 | 0,_,h,_,_,_,_,_,_=>by omega
 |k+1,l,h,j,hl,lt,d,f,g=>by
  rcases T.dn u t (k+1) l a ht j hl f g with⟨q,_⟩|⟨_,q,e⟩
  ·omega
  ·obtain⟨m,rfl⟩:∃m,l=m+1:=⟨l - 1,by omega⟩
   simp only[FQ] at e;by_cases c:k=l'
   ·subst c;exact⟨m,by omega,e.symm⟩
   ·have a1:=d k aO aO;have a2:=lt m aO;have i:=DL T b a ht aO aO e aO aO;obtain⟨x,n,ex⟩:=Qe T b ht a k m aO aO aO (λm hm=>lt m aO) (λm h1 h2=>d m h1 aO) e i;exact⟨x,by omega,ex⟩
theorem zp(T:xx M)(b:Mt M A R)(ht:t<M.n)(hl:l<M.d t)(h:bB M R t l=10):¬vU M A R (M.pl t l)/\¬pR M A R (M.pl t l):=by
 obtain⟨Q,o,a⟩:=b _ (T.ok.pl t l ht hl);exact⟨a.TR (T.ok.sl t l ht hl) (.inl h),a.Ti (T.ok.sl t l ht hl) (.inr ⟨by unfold bB at h;omega,by unfold bB at h;omega⟩)⟩
theorem FY.Sm(T:xx M)(g:Mt M A R)(ht:t<M.n)(o:u<M.n)(hl:l<M.d t)(p:l'<M.d u)(a:∀m,m<l->bB M R t m=10)(j:FY M A R u l')(n:∀v i,¬(v=M.pl t l/\i=M.sl t l)->R' v i 0=R v i 0)(h1:vU M A' R' (M.pl u l')->vU M A R (M.pl u l'))(h2:pR M A' R' (M.pl u l')->pR M A R (M.pl u l')):FY M A' R' u l':=by
 refine⟨λf hd=>?_,λb k d c=>?_⟩
 ·have f:=h1 f;by_cases e:M.pl u (l'+1)=M.pl t l/\M.sl u (l'+1)=M.sl t l
  ·obtain⟨m,hm,h⟩:=Qe T g ht o (l':=l') (l'+1) l aO hd hl a (λm h1 h2=>by omega) e.1 e.2;exact am (h ▸ f) (zp T g ht aO (a m hm)).1
  ·exact(n _ _ e).trans (j.1 f hd)
 ·have b:=h2 b;by_cases e:M.pl u k=M.pl t l/\M.sl u k=M.sl t l
  ·obtain⟨m,hm,h⟩:=Qe T g ht o (l':=l') k l d c hl a (λm h1 h2=>j.2 b m h1 aO) e.1 e.2;exact am (h ▸ b) (zp T g ht aO (a m hm)).2
  ·exact(n _ _ e).trans (j.2 b k d c)
end
structure Pq(M:eD)(A:AR):Prop where
 fit:A.Fit
 lo:∀v,v<M.nv->1<=M.tl v/\M.tl v+(1+2*M.sz v)<=A.taken+1
 ap:∀u v,u<M.nv->v<M.nv->u≠v->M.tl u+(1+2*M.sz u)<=M.tl v\/M.tl v+(1+2*M.sz v)<=M.tl u
structure fG(M:eD)(A:AR)(R:Nat->Nat->Nat->Int)(ph:Nat->HP):Prop where
 T:xx M
 G:Pq M A
 rg:Mt M A R
 P:∀t,t<M.n->(ph t).ok M R t
 J:∀t l,t<M.n->l<M.d t->FY M A R t l
def pF(ph:Nat->HP)(t:Nat)(p:HP):Nat->HP:=λu=>if u=t then p else ph u
section
variable{M:eD}{A A':AR}{R R':Nat->Nat->Nat->Int}{ph:Nat->HP}{t u l l':Nat}{p:HP}{S':Nat->Nat->Int}
theorem xx.ne(T:xx M)(ht:t<M.n){k:Nat}(hl:l<M.d t)(a:k<M.d t)(h:k≠l):M.pl t k≠M.pl t l:=λe=>by
 have:=(T.up t t k l ht ht a hl e).1;omega
theorem FY.same(T:xx M)(ht:t<M.n)(n:u<M.n)(hl:l<M.d t)(a:l'<M.d u)(e:M.pl u l'=M.pl t l)(h:FY M A R t l):FY M A R u l':=by
 obtain⟨o,b⟩:=T.up t u l l' ht n hl a e.symm;have c:∀k,0<k->l+k<M.d t->bB M R u (l'+k)=bB M R t (l+k):=λk d f=>by unfold bB;rw[(b k d f).1,(b k d f).2]
 refine⟨λi hd=>?_,λg k m j=>?_⟩
 ·rw[c 1 aO aO];exact h.1 (e ▸ i) aO
 ·have:=c (k - l') aO aO;rw[show l'+(k - l')=k by omega] at this;rw[this];exact h.2 (e ▸ g) _ aO aO
theorem fG.RT(h:fG M A R ph)(ht:t<M.n)(hl:l<M.d t)(j:∀m,m<l->bB M R t m=10)(C:∀k,k≠M.sl t l->∀τ,S' k τ=R (M.pl t l) k τ)(y:∃Q o,RI (M.sz (M.pl t l)) (M.tl (M.pl t l)) A' S' Q o)(r:ij (M.tl (M.pl t l)) (1+2*M.sz (M.pl t l)) A A')(g:A'.Fit)(B:FY M A' (dL R (M.pl t l) S') t l)(D:p.ok M (dL R (M.pl t l) S') t):fG M A' (dL R (M.pl t l) S') (pF ph t p):=by
 have hv:=h.T.ok.pl t l ht hl;have b:∀v,v<M.nv->v≠M.pl t l->dL R (M.pl t l) S' v=R v:=λv _ e=>by unfold dL;rw[ac e]
 have s:∀v i τ,¬(v=M.pl t l/\i=M.sl t l)->dL R (M.pl t l) S' v i τ=R v i τ:=λv i τ e=>by
  unfold dL;by_cases q:v=M.pl t l
  ·rw[ad q,C i (λx=>e ⟨q,x⟩),q]
  ·rw[ac q]
 have d:∀v,v<M.nv->v≠M.pl t l->∀i:Int,(M.tl v:Int)<=i->i<(M.tl v:Int)+((1+2*M.sz v:Nat):Int)->A'.get i=A.get i:=λv a e i h1 h2=>r.out i (by have:=h.G.ap v _ a hv e;omega);refine{T:=h.T,G:=⟨g,λv hv=>by rw[r.taken];exact h.G.lo v hv,h.G.ap⟩,rg:=λv a=>?_,P:=λu f=>?_,J:=λu l' f c=>?_}
 ·by_cases e:v=M.pl t l
  ·subst e;unfold dL;rw[ad rfl];exact y
  ·rw[b v a e];obtain⟨Q,o,E⟩:=h.rg v a;exact⟨Q,o,E.frame (d v a e)⟩
 ·unfold pF;by_cases e:u=t
  ·subst e;rw[ad rfl];exact D
  ·rw[ac e];refine HP.Sm (p:=ph u) (h.P u f) (by have:=(h.T.ok.d1 u f).1;omega) λk w lo=>?_;have n:¬(M.pl u k=M.pl t l/\M.sl u k=M.sl t l):=λx=>e (Qg h.T h.rg f ht k l w hl lo (λm hm=>.inl (j m hm)) x.1 x.2).1;exact⟨s _ _ _ n,s _ _ _ n⟩
 ·by_cases e:M.pl u l'=M.pl t l
  ·exact B.same h.T ht f hl c e
  ·have a:=h.T.ok.pl u l' f c;have z:=fN (d _ a e);exact FY.Sm h.T h.rg ht f hl c j (h.J u l' f c) (λv i=>s v i 0) (λx=>by unfold vU at x⊢;rw[b _ a e,z] at x;exact x) (λx=>by unfold pR at x⊢;rw[b _ a e,z] at x;exact x)
theorem fG.own(h:fG M A R ph)(ht:t<M.n)(hl:l<M.d t)(h1:jq (M.sz (M.pl t l)) (cv (M.tl (M.pl t l)) (M.sz (M.pl t l)) A') S'->vU M A R (M.pl t l))(h2:iS (M.sz (M.pl t l)) (cv (M.tl (M.pl t l)) (M.sz (M.pl t l)) A') S'->pR M A R (M.pl t l)\/l+1=M.d t):FY M A' (dL R (M.pl t l) S') t l:=by
 have hs:∀k,l<k->k<M.d t->bB M (dL R (M.pl t l) S') t k=bB M R t k:=λk b a=>by unfold bB dL;rw[ac (h.T.ne ht hl a aO)]
 have e:dL R (M.pl t l) S' (M.pl t l)=S':=by unfold dL;rw[ad rfl]
 refine⟨λd hd=>?_,λc k b a=>?_⟩
 ·unfold vU at d;rw[e] at d;rw[hs _ aO hd];exact(h.J t l ht hl).1 (h1 d) hd
 ·unfold pR at c;rw[e] at c;rw[hs k b a];rcases h2 c with q|q
  ·exact(h.J t l ht hl).2 q k b a
  ·omega
end
section
variable{M:eD}{A A':AR}{R R':Nat->Nat->Nat->Int}{ph:Nat->HP}{t u l l' c:Nat}{p:HP}{S':Nat->Nat->Int}
theorem nl(T:xx M)(ht:t<M.n)(hl:l<M.d t):bB M (dL R (M.pl t l) S') t l=S' (M.sl t l) 0:=by unfold bB dL;rw[ad rfl]
theorem pj(T:xx M)(ht:t<M.n)(hl:l<M.d t){k:Nat}(a:k<M.d t)(h:k≠l):bB M (dL R (M.pl t l) S') t k=bB M R t k:=by unfold bB dL;rw[ac (T.ne ht hl a h)]
def dA(M:eD)(A:AR)(R:Nat->Nat->Nat->Int)(t l:Nat):lu×Int:=eF ⟨M.sz (M.pl t l),M.tl (M.pl t l)⟩ ⟨A,R (M.pl t l)⟩ (M.sl t l)
def en(M:eD)(A:AR)(R:Nat->Nat->Nat->Int)(t l:Nat):Nat->Nat->Nat->Int:=dL R (M.pl t l) (aa (dA M A R t l).1.S (M.sl t l) 0 (dA M A R t l).2)
theorem lY(h:fG M A R ph)(ht:t<M.n)(hl:l<M.d t)(a:bB M R t l≠0)(h1:bB M R t l≠10):vu (M.sz (M.pl t l)) (M.tl (M.pl t l)) A (R (M.pl t l)) (M.sl t l) (dA M A R t l):=by
 have hv:=h.T.ok.pl t l ht hl;obtain⟨Q,o,b⟩:=h.rg _ hv;have g:=h.G.lo _ hv;exact rgo b h.G.fit g.1 (h.T.sz _ hv) g.2 (h.T.ok.sl t l ht hl) a h1
theorem fG.step(h:fG M A R ph)(ht:t<M.n)(hl:l<M.d t)(a:∀m,m<l->bB M R t m=10)(d:bB M R t l≠0)(h1:bB M R t l≠10)(ho:A.ops<1000000000)(f:bB M R t l=14->0<R (M.pl t l) (M.sl t l) 3->l+1=M.d t)(e:p.ok M (en M A R t l) t):fG M (dA M A R t l).1.A (en M A R t l) (pF ph t p):=by
 have g:=lY h ht hl d h1;refine h.RT ht hl a (λk b τ=>(aj _ _ _ _ b).trans (g.ot k b τ)) g.ri g.op (g.op.fit h.G.fit ho) (h.own ht hl g.lo λx=>?_) e;rcases g.hi x with q|q
 ·exact .inl q
 ·exact .inr (f q.1 q.2)
theorem fG.Vl(h:fG M A R ph)(ht:t<M.n)(i:ph t= .Tf c)(ho:A.ops<1000000000):(1<=(dA M A R t c).2/\(dA M A R t c).2<=6/\fG M (dA M A R t c).1.A (en M A R t c) (pF ph t (.Tf c)))\/((dA M A R t c).2=10/\(((dA M A R t c).1.S (M.sl t c) 2=0\/c+1=M.d t)/\fG M (dA M A R t c).1.A (en M A R t c) (pF ph t .hold)\/(dA M A R t c).1.S (M.sl t c) 2=1/\c+1<M.d t/\fG M (dA M A R t c).1.A (en M A R t c) (pF ph t (.T3 c)))):=by
 have n:=h.P t ht;rw[i] at n;obtain⟨b,h2,h3⟩:=n;have j:bB M R t c≠0:=by omega
 have h1:bB M R t c≠10:=by omega
 have g:=lY h ht b j h1;have st:=λp i=>h.step (p:=p) ht b h2 j h1 ho aO i;have f:bB M (en M A R t c) t c=(dA M A R t c).2:=(nl h.T ht b).trans (ak _ _ _ _);have d:∀k,k<M.d t->k≠c->bB M (en M A R t c) t k=bB M R t k:=λk r e=>pj h.T ht b r e;have s:bB M R t c=R (M.pl t c) (M.sl t c) 0:=rfl;have m:=h.J t c ht b;rcases g.tr with q|q|q|q|q|q
 ·exact .inl ⟨q.2.2.1,q.2.2.2,st _ ⟨b,λl hl=>(d l aO aO).trans (h2 l hl),by rw[f];exact⟨q.2.2.1,q.2.2.2⟩⟩⟩
 ·refine .inr ⟨q.2.1,.inl ⟨.inl q.2.2.2,st _ λl hl=>?_⟩⟩;by_cases e:l=c
  ·subst e;exact f.trans q.2.1
  ·rw[d l hl e];by_cases o:l<c
   ·exact h2 l o
   ·exact m.2 q.2.2.1 l aO hl
 ·refine .inr ⟨q.2.1,?_⟩;have a:∀l,l<c+1->bB M (en M A R t c) t l=10:=λl hl=>by
   by_cases e:l=c
   ·subst e;exact f.trans q.2.1
   ·exact(d l aO e).trans (h2 l aO)
  by_cases e:c+1=M.d t
  ·exact .inl ⟨.inr e,st _ λl hl=>a l aO⟩
  ·exact .inr ⟨q.2.2.2,by omega,st _ ⟨by omega,a,(d _ aO aO).trans (m.1 q.2.2.1 aO)⟩⟩
 ·omega
 ·omega
 ·omega
theorem fG.So(h:fG M A R ph)(ht:t<M.n)(i:ph t= .pass c)(ho:A.ops<1000000000):c+1<M.d t/\(((dA M A R t c).2=16/\fG M (dA M A R t c).1.A (en M A R t c) (pF ph t (.pass c)))\/((dA M A R t c).2=10/\fG M (dA M A R t c).1.A (en M A R t c) (pF ph t .hold))\/((dA M A R t c).2=0/\fG M (dA M A R t c).1.A (en M A R t c) (pF ph t (.down c)))):=by
 have r:=h.P t ht;rw[i] at r;obtain⟨n,h2,h3⟩:=r;have a:c<M.d t:=by omega
 have j:bB M R t c≠0:=by omega
 have h1:bB M R t c≠10:=by omega
 have g:=lY h ht a j h1;have st:=λp i=>h.step (p:=p) ht a (λm hm=>h2 m aO aO) j h1 ho aO i;have d:bB M (en M A R t c) t c=(dA M A R t c).2:=(nl h.T ht a).trans (ak _ _ _ _);have f:∀k,k<M.d t->k≠c->bB M (en M A R t c) t k=10:=λk o e=>(pj h.T ht a o e).trans (h2 k o e);have s:bB M R t c=R (M.pl t c) (M.sl t c) 0:=rfl;refine⟨n,?_⟩;rcases g.tr with q|q|q|q|q|q
 ·omega
 ·omega
 ·omega
 ·omega
 ·rcases q.2 with b|b
  ·refine .inr (.inl ⟨b,st _ λl hl=>?_⟩);by_cases e:l=c
   ·subst e;exact d.trans b
   ·exact f l hl e
  ·exact .inl ⟨b,st _ ⟨n,f,.inr (d.trans b)⟩⟩
 ·exact .inr (.inr ⟨q.2,st _ ⟨a,λl hl=>f l aO aO,d.trans q.2⟩⟩)
theorem fG.outs(h:fG M A R ph)(ht:t<M.n)(d:ph t= .out c)(ho:A.ops<1000000000):c<M.d t/\((11<=(dA M A R t c).2/\(dA M A R t c).2<=14/\fG M (dA M A R t c).1.A (en M A R t c) (pF ph t (.out c)))\/((dA M A R t c).2=0/\fG M (dA M A R t c).1.A (en M A R t c) (pF ph t (.down c)))):=by
 have m:=h.P t ht;rw[d] at m;obtain⟨a,h2,h3,h4⟩:=m;have j:bB M R t c≠0:=by omega
 have h1:bB M R t c≠10:=by omega
 have g:=lY h ht a j h1;have st:=λp d=>h.step (p:=p) ht a h2 j h1 ho (λ_ r=>by
  by_cases e:c+1=M.d t
  ·exact e
  ·rw[h4,ac e] at r;omega) d
 have f:bB M (en M A R t c) t c=(dA M A R t c).2:=(nl h.T ht a).trans (ak _ _ _ _);have n:en M A R t c (M.pl t c) (M.sl t c) 3=R (M.pl t c) (M.sl t c) 3:=by
  unfold en dL;rw[ad rfl,bZ _ _ _ _ aO];exact g.c3
 have i:∀k,k<c->bB M (en M A R t c) t k=10:=λk o=>(pj h.T ht a aO aO).trans (h2 k o);have s:bB M R t c=R (M.pl t c) (M.sl t c) 0:=rfl;refine⟨a,?_⟩;rcases g.tr with q|q|q|q|q|q
 ·omega
 ·omega
 ·omega
 ·rcases q.2.2 with b|b
  ·exact .inr ⟨b,st _ ⟨a,i,f.trans b⟩⟩
  ·exact .inl ⟨b.1,b.2,st _ ⟨a,i,by rw[f];exact b,n.trans h4⟩⟩
 ·omega
 ·omega
end
section
variable{M:eD}{A A':AR}{R R':Nat->Nat->Nat->Int}{ph:Nat->HP}{t u l l' c:Nat}{p:HP}{v:Int}
theorem Fk{n i:Nat}{S:Nat->Nat->Int}{pc:Int}(hi:i<n)(h:S i 0=pc):ai n S (i:Int) pc=true:=by
 unfold ai bC;simp[hi,h]
theorem pf(T:xx M)(ht:t<M.n)(hl:l<M.d t)(h:bB M R t l=0):eR M R t l=dL R (M.pl t l) (aa (R (M.pl t l)) (M.sl t l) 0 1):=by
 unfold eR bo;rw[Fk (T.ok.sl t l ht hl) h,ad rfl];rfl
theorem nk(T:xx M)(ht:t<M.n)(hl:l<M.d t)(h:bB M R t l=10)(pc:Int):cY M R t l pc v=dL R (M.pl t l) (aa (aa (R (M.pl t l)) (M.sl t l) 0 pc) (M.sl t l) 3 v):=by
 unfold cY kP bo;rw[Fk (T.ok.sl t l ht hl) h,ad rfl,ad rfl];rfl
theorem fG.ask(h:fG M A R ph)(ht:t<M.n)(hl:l<M.d t)(a:∀m,m<l->bB M R t m=10)(d:bB M R t l=0):fG M A (eR M R t l) (pF ph t (.Tf l)):=by
 rw[pf h.T ht hl d];obtain⟨Q,o,e⟩:=h.rg _ (h.T.ok.pl t l ht hl);obtain⟨f,g,i⟩:=e.ask (h.T.ok.sl t l ht hl) d;refine h.RT ht hl a (λk b τ=>aj _ _ _ _ b) ⟨Q,o,f⟩ (ij.refl _ _ _) h.G.fit (h.own ht hl g λx=>.inl (i x)) ⟨hl,λk b=>(pj h.T ht hl aO aO).trans (a k b),?_⟩;rw[nl h.T ht hl,ak];omega
theorem fG.hand(h:fG M A R ph)(ht:t<M.n)(hl:l<M.d t)(g:∀m,m<l->bB M R t m=10)(s:bB M R t l=10){pc:Int}(hv:(pc=11/\v≠0/\(l+1<M.d t->bB M R t (l+1)=0))\/(pc=15/\1<=v/\∀k,l<k->k<M.d t->bB M R t k=10))(x:p.ok M (cY M R t l pc v) t):fG M A (cY M R t l pc v) (pF ph t p):=by
 rw[nk h.T ht hl s] at x⊢;have a:=h.T.ok.sl t l ht hl;obtain⟨Q,o,y⟩:=h.rg _ (h.T.ok.pl t l ht hl);have i:=y.hand (pc:=pc) (v:=v) a s aO;have n:aa (aa (R (M.pl t l)) (M.sl t l) 0 pc) (M.sl t l) 3 v (M.sl t l) 0=pc:=by rw[bZ _ _ _ _ aO,ak]
 have hs:∀k,l<k->k<M.d t->bB M (dL R (M.pl t l) (aa (aa (R (M.pl t l)) (M.sl t l) 0 pc) (M.sl t l) 3 v)) t k=bB M R t k:=λk h1 h2=>pj h.T ht hl h2 aO;have r:dL R (M.pl t l) (aa (aa (R (M.pl t l)) (M.sl t l) 0 pc) (M.sl t l) 3 v) (M.pl t l)=aa (aa (R (M.pl t l)) (M.sl t l) 0 pc) (M.sl t l) 3 v:=by unfold dL;rw[ad rfl]
 refine h.RT ht hl g (λk w τ=>by rw[aj _ _ _ _ w,aj _ _ _ _ w]) ⟨Q,o,i⟩ (ij.refl _ _ _) h.G.fit ⟨λf hd=>?_,λe k d b=>?_⟩ x
 ·unfold vU at f;rw[r] at f;rcases hv with⟨q, -,j⟩|⟨q, -, -⟩
  ·rw[hs _ aO hd];exact j hd
  ·exact am f (i.TR a (by rw[n];omega))
 ·unfold pR at e;rw[r] at e;rcases hv with⟨q, -, -⟩|⟨q, -,j⟩
  ·exact am e (i.Ti a (by rw[n];omega))
  ·rw[hs k d b];exact j k d b
theorem tD(T:xx M)(ht:t<M.n)(hl:l<M.d t)(h:bB M R t l=10)(pc:Int):bB M (cY M R t l pc v) t l=pc/\cY M R t l pc v (M.pl t l) (M.sl t l) 3=v/\∀k,k<M.d t->k≠l->bB M (cY M R t l pc v) t k=bB M R t k:=by
 rw[nk T ht hl h];refine⟨(nl T ht hl).trans (by rw[bZ _ _ _ _ aO,ak]),by unfold dL;rw[ad rfl,ak],λk a e=>pj T ht hl a e⟩
theorem fG.toPass(h:fG M A R ph)(ht:t<M.n)(g:ph t= .hold)(hl:l+1<M.d t)(hv:1<=v):fG M A (cY M R t l 15 v) (pF ph t (.pass l)):=by
 have a:=h.P t ht;rw[g] at a;obtain⟨d,i,f⟩:=tD (v:=v) h.T ht aO (a l aO) 15;exact h.hand ht aO (λm hm=>a m aO) (a l aO) (.inr ⟨rfl,hv,λk _ b=>a k b⟩) ⟨hl,λk b e=>(f k b e).trans (a k b),.inl d⟩
theorem fG.UN(h:fG M A R ph)(ht:t<M.n)(f:ph t= .hold)(hl:l+1=M.d t):fG M A (cY M R t l 11 1) (pF ph t (.out l)):=by
 have a:=h.P t ht;rw[f] at a;obtain⟨b,d,e⟩:=tD (v:=1) h.T ht aO (a l aO) 11;exact h.hand ht aO (λm hm=>a m aO) (a l aO) (.inl ⟨rfl,by omega,λx=>by omega⟩) ⟨by omega,λk g=>(e k aO aO).trans (a k aO),by rw[b];omega,by rw[d,ad hl]⟩
theorem fG.Ux(h:fG M A R ph)(ht:t<M.n)(f:ph t= .down (l+1)):fG M A (cY M R t l 11 (-1)) (pF ph t (.out l)):=by
 have a:=h.P t ht;rw[f] at a;obtain⟨g,h2,h3⟩:=a;obtain⟨b,d,e⟩:=tD (v:= -1) h.T ht aO (h2 l aO) 11;exact h.hand ht aO (λm hm=>h2 m aO) (h2 l aO) (.inl ⟨rfl,by omega,λ_=>h3⟩) ⟨by omega,λk i=>(e k aO aO).trans (h2 k aO),by rw[b];omega,by rw[d,ac aO]⟩
theorem fG.name(h:fG M A R ph)(a:p.ok M R t):fG M A R (pF ph t p):=⟨h.T,h.G,h.rg,λu b=>by
 unfold pF;by_cases e:u=t
 ·subst e;rw[ad rfl];exact a
 ·rw[ac e];exact h.P u b,h.J⟩
end
def HP.at_(S:Nat->Nat->Int)(t:Nat):HP->Prop
 | .rest=>S t 0=0
 | .Tf c=>S t 0=1/\S t 3=(c:Nat)
 | .hold=>S t 0=10
 | .pass c=>S t 0=11/\S t 3=(c:Nat)
 | .out c=>S t 0=12/\S t 3=(c:Nat)
 | .T3 _=>False
 | .down _=>False
def qs(M:eD)(X:fB):Prop:=∃ph,fG M X.A X.R ph/\∀t,t<M.n->(ph t).at_ X.S t
def xw(M:eD)(X X':fB)(ph:Nat->HP)(t:Nat):Prop:=∃p,fG M X'.A X'.R (pF ph t p)/\p.at_ X'.S t/\∀k,k≠t->∀τ,X'.S k τ=X.S k τ
section
variable{M:eD}{X X':fB}{ph:Nat->HP}{t j l c:Nat}{p:HP}{v:Int}{S S':Nat->Nat->Int}
theorem HP.Uz(a:∀τ,S' t τ=S t τ)(h:p.at_ S t):p.at_ S' t:=by
 cases p<;>simp only[HP.at_,a] at h⊢<;>exact h
theorem xw.all(h:xw M X X' ph t)(ha:∀k,k<M.n->(ph k).at_ X.S k):qs M X':=by
 obtain⟨p,h1,h2,h3⟩:=h;refine⟨_,h1,λk a=>?_⟩;unfold pF;by_cases e:k=t
 ·subst e;rw[ad rfl];exact h2
 ·rw[ac e];exact HP.Uz (h3 k e) (ha k a)
theorem kJ:∀f l,l+f=M.d t->0<f->fx M X t f l<M.d t/\(fx M X t f l+1=M.d t\/dG M X t (fx M X t f l) 1<=M.bud)
 | 0,_,_,h=>by omega
 |f+1,l,h,_=>by
  unfold fx;by_cases e:l+1=M.d t\/dG M X t l 1<=M.bud
  ·rw[ad e];exact⟨by omega,e⟩
  ·rw[ac e];exact kJ f (l+1) aO aO
theorem fG.UA(h:fG M X.A X.R ph)(ht:t<M.n)(b:ph t= .hold){l0:Nat}(hl:l0<M.d t):xw M X (es M X t l0) ph t:=by
 obtain⟨h1,h2⟩:=kJ (M:=M) (X:=X) (t:=t) (M.d t - l0) l0 aO aO;unfold es gZ gz;generalize fx M X t (M.d t - l0) l0=l at*;have f:=h.P t ht;rw[b] at f;by_cases e:l+1=M.d t
 ·rw[ad e];exact⟨.out l,h.UN ht b e,⟨ak _ _ _ _,(bZ _ _ _ _ aO).trans (ak _ _ _ _)⟩,λk a τ=>(aj _ _ _ _ a).trans (aj _ _ _ _ a)⟩
 ·rw[ac e];obtain⟨Q,o,d⟩:=h.rg _ (h.T.ok.pl t l ht h1);have i:1<=dG M X t l 1:=(d.va _ (h.T.ok.sl t l ht h1)).1 (.inl (f l h1));have m:=h.T.ok.bud;have g:=h2.resolve_left e;exact⟨.pass l,h.toPass ht b aO (by rw[ce aO];omega),⟨ak _ _ _ _,(bZ _ _ _ _ aO).trans (ak _ _ _ _)⟩,λk a τ=>(aj _ _ _ _ a).trans (aj _ _ _ _ a)⟩
theorem fG.dn(h:fG M X.A X.R ph)(ht:t<M.n)(b:ph t= .down c):xw M X (kI M X t c) ph t:=by
 have d:=h.P t ht;rw[b] at d;unfold kI;cases c with
 |zero=>
  rw[ad rfl];exact⟨.rest,h.name d.2.2,ak _ _ _ _,λk a τ=>aj _ _ _ _ a⟩
 |succ c=>
  rw[ac aO];exact⟨.out c,h.Ux ht b,⟨ak _ _ _ _,(bZ _ _ _ _ aO).trans (ak _ _ _ _)⟩,λk a τ=>(aj _ _ _ _ a).trans (aj _ _ _ _ a)⟩
theorem Fo(q:HP):pF (pF ph t q) t p=pF ph t p:=by funext u;unfold pF;split<;>rfl
theorem mo:pF ph t p t=p:=by unfold pF;rw[ad rfl]
theorem xw.on{a:fB}{q:HP}(h:xw M a X' (pF ph t q) t)(b:a.S=X.S):xw M X X' ph t:=by
 obtain⟨p,h1,h2,h3⟩:=h;rw[Fo] at h1;exact⟨p,h1,h2,λk d τ=>by rw[h3 k d τ,b]⟩
theorem wU(a:bB M X.R t c≠0)(h1:bB M X.R t c≠10):bH M X t c={X with A:=(dA M X.A X.R t c).1.A,R:=en M X.A X.R t c}/\fn M X t c=((dA M X.A X.R t c).2==0||(dA M X.A X.R t c).2==10):=by
 have hm:g6 (X.rg (M.pl t c)) (M.sl t c)=true:=by
  unfold g6;simp only[xn,Bool.not_eq_true',beq_eq_false_iff_ne];exact⟨a,h1⟩
 unfold bH fn oi jC;rw[hm];exact⟨rfl,rfl⟩
theorem qs.ask(h:qs M X)(hj:j<M.n)(g:X.S j 0=0):qs M {X with R:=eR M X.R j 0,S:=qd X.S j}:=by
 obtain⟨ph,b,ha⟩:=h;have f:ph j= .rest:=by
  have:=ha j hj;cases e:ph j<;>rw[e] at this<;>simp only[HP.at_] at this<;>omega
 have d:=b.P j hj;rw[f] at d;refine xw.all (X:=X) (ph:=ph) (t:=j) ⟨.Tf 0,b.ask hj (b.T.ok.d1 j hj).1 (λm hm=>by omega) d,⟨?_,ak _ _ _ _⟩,λk a τ=>?_⟩ ha
 ·show qd X.S j j 0=1;unfold qd;rw[bZ _ _ _ _ aO,bZ _ _ _ _ aO,bZ _ _ _ _ aO,ak]
 ·show qd X.S j k τ=X.S k τ;unfold qd;rw[aj _ _ _ _ a,aj _ _ _ _ a,aj _ _ _ _ a,aj _ _ _ _ a]
theorem qs.leave(h:qs M X)(hj:j<M.n):qs M (i1 M X j):=by
 unfold i1;by_cases a:X.S j 0=10
 ·rw[ad a];obtain⟨ph,b,ha⟩:=h;have d:ph j= .hold:=by
   have:=ha j hj;cases e:ph j<;>rw[e] at this<;>simp only[HP.at_] at this<;>omega
  exact(b.UA hj d (b.T.ok.d1 j hj).1).all ha
 ·rw[ac a];exact h
end
section
variable{M:eD}{X:fB}{ph:Nat->HP}{j c:Nat}
theorem NI{A:AR}{R:Nat->Nat->Nat->Int}{t:Nat}:en M A R t c (M.pl t c) (M.sl t c) 2=(dA M A R t c).1.S (M.sl t c) 2/\en M A R t c (M.pl t c) (M.sl t c) 0=(dA M A R t c).2:=by
 unfold en dL;rw[ad rfl,bZ _ _ _ _ aO,ak];exact⟨rfl,rfl⟩
theorem rJ:dG M {X with A:=(dA M X.A X.R j c).1.A,R:=en M X.A X.R j c} j c 2=(dA M X.A X.R j c).1.S (M.sl j c) 2/\dG M {X with A:=(dA M X.A X.R j c).1.A,R:=en M X.A X.R j c} j c 0=(dA M X.A X.R j c).2:=NI
theorem fq(h:X.S j 3=(c:Nat)):dk X j=c:=by unfold dk;rw[h];rfl
theorem bF{x:Int}(h:x≠0)(a:x≠10):(x==0||x==10)=false:=by simp[h,a]
theorem qs.step(h:qs M X)(hj:j<M.n)(ho:X.A.ops<1000000000):qs M (eK M X j (dk X j))/\MF M X j:=by
 obtain⟨ph,g,ha⟩:=h;have l:=g.P j hj;have hs:=ha j hj;cases e:ph j with
 |rest=>
  rw[e] at hs;have hs:X.S j 0=0:=hs;unfold eK;rw[ad (.inl hs)];exact⟨⟨ph,g,ha⟩,λq=>am (.inl hs) q⟩
 |hold=>
  rw[e] at hs;have hs:X.S j 0=10:=hs;unfold eK;rw[ad (.inr hs)];exact⟨⟨ph,g,ha⟩,λq=>am (.inr hs) q⟩
 |T3 c=>rw[e] at hs;exact hs.elim
 |down c=>rw[e] at hs;exact hs.elim
 |Tf c=>
  rw[e] at hs l;obtain⟨s0,s3⟩:=hs;obtain⟨i,h2,h3⟩:=l;obtain⟨f,d⟩:=wU (M:=M) (X:=X) (t:=j) (c:=c) aO aO;rw[fq s3];refine⟨?_,λ_=>⟨by omega,by rw[fq s3];exact i,by rw[fq s3];exact .inl ⟨by show 0<=bB M X.R j c;omega,by show bB M X.R j c<=6;omega⟩,λ_ q=>am s0 q⟩⟩;unfold eK;rw[ac aO,d,f];rcases g.Vl hj e ho with⟨o,n,a⟩|⟨q,⟨n,a⟩|⟨n,s,a⟩⟩
  ·rw[bF aO aO,ad rfl];exact xw.all (X:=X) ⟨.Tf c,a,⟨s0,s3⟩,λ_ _ _=>rfl⟩ ha
  ·rw[q,ac aS];unfold iY o8;rw[ad s0,ad (by rw[rJ.1];exact n)];exact xw.all (X:=X) ⟨.hold,a,ak _ _ _ _,λk p τ=>aj _ _ _ _ p⟩ ha
  ·rw[q,ac aS];unfold iY o8;rw[ad s0,ac (by rw[rJ.1];omega)];have b:=a.P j hj;rw[mo] at b;have:=a.ask hj s b.2.1 b.2.2;rw[Fo] at this;exact xw.all (X:=X) ⟨.Tf (c+1),this,⟨(bZ _ _ _ _ aO).trans s0,(ak _ _ _ _).trans aO⟩,λk p τ=>aj _ _ _ _ p⟩ ha
 |pass c=>
  rw[e] at hs l;obtain⟨s0,s3⟩:=hs;obtain⟨i,h2,h3⟩:=l;obtain⟨f,d⟩:=wU (M:=M) (X:=X) (t:=j) (c:=c) aO aO;rw[fq s3];refine⟨?_,λ_=>⟨by omega,by rw[fq s3];omega,by rw[fq s3];exact .inr ⟨by show 10<=bB M X.R j c;omega,by show bB M X.R j c<=16;omega⟩,λ_ _ _=>by rw[fq s3];exact i⟩⟩;unfold eK;rw[ac aO,d,f];rcases(g.So hj e ho).2 with⟨q,a⟩|⟨q,a⟩|⟨q,a⟩
  ·rw[bF aO aO,ad rfl];exact xw.all (X:=X) ⟨.pass c,a,⟨s0,s3⟩,λ_ _ _=>rfl⟩ ha
  ·rw[q,ac aS];unfold iY;rw[ac aO,ac (by rw[rJ.2,q];omega)];exact xw.all ((fG.UA (X:={X with A:=(dA M X.A X.R j c).1.A,R:=en M X.A X.R j c}) a hj mo i).on rfl) ha
  ·rw[q,ac aS];unfold iY;rw[ac aO,ad (by rw[rJ.2,q])];exact xw.all ((fG.dn (X:={X with A:=(dA M X.A X.R j c).1.A,R:=en M X.A X.R j c}) a hj mo).on rfl) ha
 |out c=>
  rw[e] at hs l;obtain⟨s0,s3⟩:=hs;obtain⟨i,h2,h3,h4⟩:=l;obtain⟨f,d⟩:=wU (M:=M) (X:=X) (t:=j) (c:=c) aO aO;rw[fq s3];have m:=(g.outs hj e ho).2;refine⟨?_,λ_=>⟨by omega,by rw[fq s3];exact i,by rw[fq s3];exact .inr ⟨by show 10<=bB M X.R j c;omega,by show bB M X.R j c<=16;omega⟩,λr _ q=>?_⟩⟩
  ·unfold eK;rw[ac aO,d,f];rcases m with⟨o,n,a⟩|⟨q,a⟩
   ·rw[bF aO aO,ad rfl];exact xw.all (X:=X) ⟨.out c,a,⟨s0,s3⟩,λ_ _ _=>rfl⟩ ha
   ·rw[q,ac aS];unfold iY;rw[ac aO,ad (by rw[rJ.2,q])];exact xw.all ((fG.dn (X:={X with A:=(dA M X.A X.R j c).1.A,R:=en M X.A X.R j c}) a hj mo).on rfl) ha
  ·exfalso;rw[fq s3] at r q;rw[f] at q;rw[d] at r;have q:(dA M X.A X.R j c).2≠0:=λx=>q (NI.2.trans x);rcases m with⟨o,n, -⟩|⟨o, -⟩
   ·rw[bF aO aO] at r;simp at r
   ·exact q o
theorem qs.zero{A:AR}(T:xx M)(G:Pq M A)(a:∀v,v<M.nv->∀i:Int,(M.tl v:Int)<=i->i<(M.tl v:Int)+((1+2*M.sz v:Nat):Int)->A.get i=0):qs M ⟨A,λ_ _ _=>0,λ_ _=>0⟩:=
 ⟨λ_=>.rest,⟨T,G,λv hv=>⟨[],none,RI.zero (a v hv)⟩,λ_ _=>rfl,λt l ht hl=>⟨λ_ _=>rfl,λb k _ _=>by
  rcases b with⟨i,_,q⟩|⟨i,_,q,_⟩
  ·exact am q aS
  ·exact am q aS⟩⟩,λ_ _=>rfl⟩
end
def jk(P T:List Int)(v:Nat):Nat:=if(dM P (v:Int) P.length).length=0 then max 1 (T.count (v:Int)) else(dM P (v:Int) P.length).length
def eV(P T:List Int):Nat->Nat
 | 0=>0
 |v+1=>eV P T v+(2*jk P T v+1)
def cg(P T:List Int)(t:Nat):List Int:=dZ P 40 (T[t]?.getD 0)
def fP(P T:List Int)(t l:Nat):Nat:=((cg P T t)[l]?.getD 0).toNat
def jY(P T:List Int)(t l:Nat):Nat:=if l=0 then(T.take t).count (T[t]?.getD 0) else(dM P ((cg P T t)[l]?.getD 0) P.length).idxOf ((cg P T t)[l - 1]?.getD 0)
def NK(P T:List Int)(A:AR)(bud:Int):eD:=⟨T.length,bud,P.length,λt=>(cg P T t).length,fP P T,jY P T,jk P T,λv=>A.taken+1+eV P T v⟩
def A2(P T:List Int)(A:AR)(v:Nat):AR:={A with taken:=A.taken+eV P T v}
section
variable{P T:List Int}
variable{y:Int}
theorem qQ(b:jD P)(a:0<=y)(h1:y<P.length): -1<=P[y.toNat]?.getD 0/\P[y.toNat]?.getD 0<y:=by
 obtain⟨n,rfl⟩:=ix a;rw[cH];obtain⟨t0,t1⟩:=b;by_cases e:n=0
 ·subst e;rw[t0];omega
 ·have:=t1 n aO aO;omega
theorem tT(a:jD P):∀(f g:Nat)(y:Int),y<f->y<g->y<P.length->dZ P f y=dZ P g y
 | 0,g,y,h1,_,_=>by
  cases g with
  |zero=>rfl
  |succ g=>show[]=if y<0 then[] else _;rw[ad aO]
 |f+1,0,y,_,h2,_=>by show(if y<0 then[] else _)=[];rw[ad aO]
 |f+1,g+1,y,h1,h2,h3=>by
  show(if y<0 then[] else _)=if y<0 then[] else _
  by_cases e:y<0
  ·rw[ad e,ad e]
  ·rw[ac e,ac e];have:=qQ a (by omega:0<=y) h3;rw[tT a f g _ aO aO aO]
theorem iP(a:jD P)(hs:P.length<=32)(b:0<=y)(h1:y<P.length):dZ P 40 y=y::dZ P 40 (P[y.toNat]?.getD 0):=by
 have:=qQ a b h1;rw[tT a 40 39 (P[y.toNat]?.getD 0) aO aO aO];show(if y<0 then[] else _)=_;rw[ac aO]
theorem r6(a:y<0):dZ P 40 y=[]:=by
 show(if y<0 then[] else _)=_;rw[ad a]
theorem wN(P:List Int):∀(f:Nat)(y:Int),(dZ P f y).length<=f
 | 0,_=>ba _
 |f+1,y=>by
  show(if y<0 then[] else _).length<=_
  split
  ·exact fA _
  ·have:=wN P f (P[y.toNat]?.getD 0);rw[xp];omega
theorem xb(a:jD P)(hs:P.length<=32):∀(l:Nat)(y:Int),y<P.length->l<(dZ P 40 y).length->(dZ P 40 y).drop l=dZ P 40 ((dZ P 40 y)[l]?.getD 0)/\0<=(dZ P 40 y)[l]?.getD 0/\(dZ P 40 y)[l]?.getD 0<P.length:=by
 intro l;induction l with
 |zero=>
  intro y h1 hl;by_cases e:y<0
  ·rw[r6 e] at hl;simp at hl
  ·have b:=iP a hs (by omega:0<=y) h1;have c:(dZ P 40 y)[0]?.getD 0=y:=by rw[b];rfl
   rw[c];exact⟨rfl,by omega,h1⟩
 |succ l f=>
  intro y h1 hl;by_cases e:y<0
  ·rw[r6 e] at hl;simp at hl
  ·have b:=iP a hs (by omega:0<=y) h1;have g:=qQ a (by omega:0<=y) h1;rw[b] at hl⊢;rw[xp] at hl;have d:(y::dZ P 40 (P[y.toNat]?.getD 0))[l+1]? =(dZ P 40 (P[y.toNat]?.getD 0))[l]? :=List.getElem?_cons_succ;rw[d,FG];exact f _ aO aO
variable{l:Nat}
theorem Fp(b:jD P)(hs:P.length<=32)(h1:y<P.length)(hl:l+1<(dZ P 40 y).length):P[((dZ P 40 y)[l]?.getD 0).toNat]?.getD 0=(dZ P 40 y)[l+1]?.getD 0:=by
 obtain⟨d1,d2,d3⟩:=xb b hs l y h1 aO;have d:=iP b hs d2 d3;rw[d] at d1;have c:(dZ P 40 y)[l+1]? =((dZ P 40 y).drop l)[1]? :=by rw[I6]
 rw[c,d1];rw[List.getElem?_cons_succ];have a:=sI List.length d1;rw[List.length_drop,xp] at a;by_cases e:P[((dZ P 40 y)[l]?.getD 0).toNat]?.getD 0<0
 ·rw[r6 e,FV] at a;omega
 ·rw[iP b hs (y:=P[((dZ P 40 y)[l]?.getD 0).toNat]?.getD 0) aO (by have:=qQ b d2 d3;omega)];rfl
variable{x:Int}
theorem nZ{q:Int}{k:Nat}:x∈dM P q k↔∃i:Nat,i<k/\P[i]?.getD 0=q/\x=i:=by
 unfold dM;rw[FH];constructor
 ·rintro⟨i,hi,rfl⟩;rw[List.mem_filter,y7] at hi;exact⟨i,hi.1,by simpa using hi.2,rfl⟩
 ·rintro⟨i,hi,a,rfl⟩;exact⟨i,by rw[List.mem_filter,y7];exact⟨hi,by simpa using a⟩,rfl⟩
theorem Hr{E:List Int}(a:x∈E)(b:y∈E)(h:E.idxOf x=E.idxOf y):x=y:=by
 have h1:=BN (qm.2 a);have h2:=BN (qm.2 b);rw[<-h1,<-h2];congr 1
theorem gU{x:Int}:∀{T:List Int}{a b:Nat},a<b->a<T.length->T[a]?.getD 0=x->(T.take a).count x<(T.take b).count x
 | [],a,b,_,h,_=>by simp at h
 |y::T,0,b+1,_,_,h=>by
  have:y=x:=by simpa using h
  subst this;simp
 |y::T,a+1,b+1,h1,h2,h3=>by
  have:=gU (T:=T) (a:=a) (b:=b) (x:=x) aO (by simpa using h2) (by simpa using h3);rw[I8,I8,List.count_cons,List.count_cons];omega
variable{A:AR}{bud:Int}
variable{t:Nat}
theorem Au(h:ea P T)(ht:t<T.length):0<=T[t]?.getD 0/\T[t]?.getD 0<P.length/\T[t]?.getD 0∉P:=by
 have:=h.ends (T[t]?.getD 0) (by rw[eB ht];exact lB ht);unfold ee at this;simp at this;exact⟨this.1.1,this.1.2,this.2⟩
theorem lV(h:ea P T)(ht:t<T.length)(hl:l<(cg P T t).length):(cg P T t)[l]?.getD 0=(fP P T t l:Int)/\fP P T t l<P.length/\(cg P T t).drop l=dZ P 40 (fP P T t l):=by
 obtain⟨d1,d2,d3⟩:=xb h.tree h.size.2.1 l _ (Au h ht).2.1 hl;have e:(cg P T t)[l]?.getD 0=(fP P T t l:Int):=by
  show _=(((cg P T t)[l]?.getD 0).toNat:Int)
  unfold cg;omega
 refine⟨e,?_,?_⟩
 ·have:(cg P T t)[l]?.getD 0<P.length:=d3;omega
 ·rw[<-e];exact d1
theorem Jq(h:ea P T)(ht:t<T.length)(hl:l+1<(cg P T t).length):P[fP P T t l]?.getD 0=(fP P T t (l+1):Int):=by
 have:=Fp h.tree h.size.2.1 (Au h ht).2.1 hl;rw[<-(lV h ht hl).1];exact this
theorem uw(h:ea P T)(ht:t<T.length):1<=(cg P T t).length/\(cg P T t).length<=40:=by
 obtain⟨h1,h2,h3⟩:=Au h ht;refine⟨?_,wN _ _ _⟩;unfold cg;rw[iP h.tree h.size.2.1 h1 h2];simp
theorem qA(h:ea P T)(ht:t<T.length):fP P T t 0=(T[t]?.getD 0).toNat/\(fP P T t 0:Int)=T[t]?.getD 0:=by
 obtain⟨h1,h2,h3⟩:=Au h ht;have e:fP P T t 0=(T[t]?.getD 0).toNat:=by
  unfold fP cg;rw[iP h.tree h.size.2.1 h1 h2];rfl
 exact⟨e,by omega⟩
theorem uu(h:ea P T)(ht:t<T.length)(hl:l+1<(cg P T t).length):((cg P T t)[l]?.getD 0)∈dM P ((cg P T t)[l+1]?.getD 0) P.length:=by
 obtain⟨e,a,_⟩:=lV h ht (by omega:l<_);rw[e,(lV h ht hl).1];exact nZ.2 ⟨_,a,Jq h ht hl,rfl⟩
theorem A9(h:ea P T)(ht:t<T.length):(dM P (T[t]?.getD 0) P.length).length=0:=by
 rw[BL,List.eq_nil_iff_forall_not_mem];intro x b;obtain⟨i,hi,a,_⟩:=nZ.1 b;refine(Au h ht).2.2 ?_;rw[<-a,eB hi];exact lB hi
theorem zu(h:ea P T)(v:Nat):1<=jk P T v/\jk P T v<=32:=by
 obtain⟨s1,s2,s3,s4⟩:=h.size;have:=FP (a:=(v:Int)) (l:=T);have:=ni P (v:Int) P.length;unfold jk
 split<;>omega
theorem DK(h:ea P T)(v:Nat):eV P T v<=65*v:=by
 induction v with
 |zero=>exact ba _
 |succ v a=>
  show eV P T v+_<=_;have:=zu h v;omega
theorem pi(P T:List Int){u v:Nat}(h:u<v):eV P T u+(2*jk P T u+1)<=eV P T v:=by
 induction v with
 |zero=>omega
 |succ v a=>
  show _<=eV P T v+_;by_cases e:u=v
  ·subst e;omega
  ·have:=a aO;omega
theorem NM(h:ea P T)(o:0<=bud/\bud<=1000):xx (NK P T A bud) where
 up:=λt u l l' ht f hl c e=>by
  have ht:t<T.length:=ht;have f:u<T.length:=f;have hl:l<(cg P T t).length:=hl;have c:l'<(cg P T u).length:=c;have e:fP P T t l=fP P T u l':=e;have d:(cg P T t).drop l=(cg P T u).drop l':=by rw[(lV h ht hl).2.2,(lV h f c).2.2,e]
  have dl:=sI List.length d;rw[List.length_drop,List.length_drop] at dl;have i:∀k,(cg P T t)[l+k]? =(cg P T u)[l'+k]? :=λk=>by rw[<-I6,d,I6]
  refine⟨by show(cg P T t).length+l'=(cg P T u).length+l;omega,λk m p=>⟨?_,?_⟩⟩
  ·show((cg P T t)[l+k]?.getD 0).toNat=((cg P T u)[l'+k]?.getD 0).toNat;rw[i]
  ·show jY P T t (l+k)=jY P T u (l'+k);unfold jY;rw[ac aO,ac aO,i];have:=i (k - 1);rw[show l+k - 1=l+(k - 1) by omega,show l'+k - 1=l'+(k - 1) by omega,this]
 dn:=λt u l l' ht f hl c e g=>by
  have ht:t<T.length:=ht;have f:u<T.length:=f;have hl:l<(cg P T t).length:=hl;have c:l'<(cg P T u).length:=c;have e:fP P T t l=fP P T u l':=e;have g:jY P T t l=jY P T u l':=g;have no:∀{t u l':Nat},t<T.length->u<T.length->l'+1<(cg P T u).length->fP P T t 0≠fP P T u (l'+1):=λ{t u l'} ht f c e=>by
   have a1:=Jq h f c;have a2:=(lV h f (by omega:l'<_)).2.1;rw[<-e,(qA h ht).2] at a1;refine(Au h ht).2.2 ?_;rw[<-a1,eB a2];exact lB a2
  cases l with
  |zero=>
   cases l' with
   |zero=>
    refine .inl ⟨rfl,rfl,?_⟩;have ex:T[t]?.getD 0=T[u]?.getD 0:=by rw[<-(qA h ht).2,<-(qA h f).2,e]
    unfold jY at g;rw[ad rfl,ad rfl,<-ex] at g;rcases Jd t u with q|q|q
    ·have:=gU q ht rfl;omega
    ·exact q
    ·have:=gU q f ex.symm;omega
   |succ l'=>exact am e (no ht f c)
  |succ l=>
   cases l' with
   |zero=>exact am e.symm (no f ht hl)
   |succ l'=>
    refine .inr ⟨by omega,by omega,?_⟩;unfold jY at g;rw[ac aO,ac aO] at g;simp only[FQ] at g⊢;have k1:=uu h ht hl;have k2:=uu h f c;have n:(cg P T t)[l+1]?.getD 0=(cg P T u)[l'+1]?.getD 0:=by rw[(lV h ht hl).1,(lV h f c).1,e]
    rw[n] at k1 g;have:=Hr k1 k2 g;show((cg P T t)[l]?.getD 0).toNat=((cg P T u)[l']?.getD 0).toNat;rw[this]
 ok:={
  Ry:=h.size.2.2.2
  d1:=λt ht=>uw h ht
  pl:=λt l ht hl=>(lV h ht hl).2.1
  sl:=λt l ht hl=>by
   have ht:t<T.length:=ht;have hl:l<(cg P T t).length:=hl;show jY P T t l<jk P T (fP P T t l);cases l with
   |zero=>
    have j:=(qA h ht).2;have m:=A9 h ht;unfold jY jk;rw[j,ad rfl,ad m];have:=gU (T:=T) (a:=t) (b:=T.length) ht ht rfl;rw[Jf] at this;omega
   |succ l=>
    have k1:=uu h ht hl;have j:=(lV h ht hl).1;unfold jY jk;rw[ac aO,<-j];simp only[FQ];have:=qm.2 k1;rw[ac aO];exact this
  bud:=o}
 sz:=λv hv=>(zu h v).2
theorem Qh(h:ea P T)(a:A.Fit)(c:A.taken+2080<=A.ws.length):Pq (NK P T A bud) (A2 P T A P.length) where
 fit:=⟨by show A.taken+eV P T P.length<=A.ws.length;have:=DK h P.length;have:=h.size.2.1;omega,a.2⟩
 lo:=λv hv=>by
  have hv:v<P.length:=hv;have:=pi P T hv;show 1<=A.taken+1+eV P T v/\A.taken+1+eV P T v+(1+2*jk P T v)<=A.taken+eV P T P.length+1;omega
 ap:=λu v d hv b=>by
  show A.taken+1+eV P T u+(1+2*jk P T u)<=A.taken+1+eV P T v\/A.taken+1+eV P T v+(1+2*jk P T v)<=A.taken+1+eV P T u;rcases Nat.lt_or_ge u v with q|q
  ·have:=pi P T q;omega
  ·have:=pi P T (show v<u by omega);omega
end
theorem Ha(M:eD)(X:fB)(j c:Nat)(a:Int):(iY M X j c a).A=X.A:=by
 unfold iY o8 kI es gZ;repeat (first|rfl|split)
variable{M:eD}{X:fB}{j:Nat}
theorem vW{c:Nat}(h:qs M X)(hj:j<M.n)(b:c<M.d j):(bH M X j c).A.ops<=X.A.ops+1:=by
 obtain⟨ph,a,_⟩:=h;show(jC (M.rg (M.pl j c)) (X.rg (M.pl j c)) (M.sl j c)).A.ops<=_;unfold jC;cases hm:g6 (X.rg (M.pl j c)) (M.sl j c) with
 |false=>rw[ac aS];show X.A.ops<=_;omega
 |true=>
  rw[ad rfl];unfold g6 at hm;simp only[xn,Bool.not_eq_true',beq_eq_false_iff_ne] at hm;have:=(lY a hj b hm.1 hm.2).ops;unfold dA at this;show(eF (M.rg (M.pl j c)) (X.rg (M.pl j c)) (M.sl j c)).1.A.ops<=_;have e:eF (M.rg (M.pl j c)) (X.rg (M.pl j c)) (M.sl j c)=eF ⟨M.sz (M.pl j c),M.tl (M.pl j c)⟩ ⟨X.A,X.R (M.pl j c)⟩ (M.sl j c):=rfl;rw[e];omega
theorem A5(h:qs M X)(hj:j<M.n)(ho:X.A.ops<1000000000):(eK M X j (dk X j)).A.ops<=X.A.ops+1:=by
 have b:=(h.step hj ho).2;unfold eK;by_cases a:X.S j 0=0\/X.S j 0=10
 ·rw[ad a];omega
 ·rw[ac a];have:=vW h hj (b a).2.1
  split
  ·exact this
  ·rw[Ha];exact this
theorem Hh(M:eD)(X:fB)(j:Nat):(i1 M X j).A=X.A:=by
 unfold i1 es gZ;repeat (first|rfl|split)
structure qr(M:eD)(k:Nat)(X:fB):Prop where
 k1:k<=100000
 l:qs M X
 o:X.A.ops<=(k:Int)
theorem qr.ask{M:eD}{k j:Nat}{s:fB}(h:qr M k s)(b:k<100000)(hj:j<M.n):qr M (k+1) (if s.S j 0=0 then{s with R:=eR M s.R j 0,S:=qd s.S j} else s):=by
 by_cases a:s.S j 0=0
 ·rw[ad a];exact⟨b,h.l.ask hj a,by have:=h.o;show s.A.ops<=_;omega⟩
 ·rw[ac a];exact⟨b,h.l,by have:=h.o;omega⟩
theorem qr.leave{M:eD}{k j:Nat}{s:fB}(h:qr M k s)(a:k<100000)(hj:j<M.n):qr M (k+1) (i1 M s j):=⟨a,h.l.leave hj,by rw[Hh];have:=h.o;omega⟩
theorem qr.step{M:eD}{k j:Nat}{s:fB}(h:qr M k s)(a:k<100000)(hj:j<M.n):qr M (k+1) (eK M s j (dk s j)):=by
 have ho:s.A.ops<1000000000:=by have:=h.o;omega
 exact⟨a,(h.l.step hj ho).1,by have:=A5 h.l hj ho;have:=h.o;omega⟩
def yi(M:eD):LP where
 σ:=fB
 n:=M.n
 shares:=false
 ar:=λs=>s.A
 I:=qr M
 Sr:=λs i _=>s.S i.toNat 0==0
 R3:=λs i _=>if s.S i.toNat 0=0 then{s with R:=eR M s.R i.toNat 0,S:=qd s.S i.toNat} else s
 RZ:=λs i=>s.S i.toNat 0==10
 Rz:=λs i=>i1 M s i.toNat
 RD:=λs i=>rN M s i.toNat (dk s i.toNat)
 Ru:=λs i=>eK M s i.toNat (dk s i.toNat)
 sp:=λs i t=>s.S i.toNat t
 Ta:=λs i=>if s.S i.toNat 0=10 then dG M s i.toNat 0 1 else 0
theorem Qf(M:eD):(yi M).Ok:=
 LP.Sq (λk s a h=>(⟨a,qr.l (X:=s) h,by have:=qr.o (X:=s) h;omega⟩:qr M (k+1) s)) (λk s j r a h hj _=>qr.ask (s:=s) (j:=(j:Int).toNat) h a hj) (λk s j a h hj=>qr.leave (s:=s) (j:=(j:Int).toNat) h a hj) (λk s j a h hj=>qr.step (s:=s) (j:=(j:Int).toNat) h a hj)
section
variable{w w':World}{B:p6}{M:eD}{X:fB}
def DB(M:eD)(B:p6):lm (yi M) where
 T:=172
 q:=.pointer (some ⟨B.lb,0,none⟩)
 Z:=xy B M
 ab:=B.ab
 wb:=B.wb
 At:=λw s=>bQ w B M s
 Sa:=233
 Sp:=.pointer (some ⟨B.lb,0,none⟩)
 RB:=235
 RM:=.pointer (some ⟨B.lb,0,none⟩)
 RR:=237
 R6:=.pointer (some ⟨B.lb,0,none⟩)
 RO:=236
 R5:=.pointer (some ⟨B.lb,0,none⟩)
 RL:=234
 R0:=.pointer (some ⟨B.lb,0,none⟩)
theorem Dv{j:Nat}(h:bQ w B M X)(hj:j<M.n):mU B M 233 #[some B.lb,j] w (.bool (X.S j 0==0)) (if X.S j 0=0 then{X with R:=eR M X.R j 0,S:=qd X.S j} else X):=by
 by_cases a:X.S j 0=0
 ·rw[ad a,show(X.S j 0==0)=true by simpa using a];exact Kp h hj a
 ·rw[ac a,show(X.S j 0==0)=false by simpa using a];exact Ko h hj a
theorem DC(hn:M.n<=32):(DB M B).Ok where
 Ry:=hn
 sh:=rfl
 Sw:=λF w=>by kernel_rfl
 RW:=λF w=>by kernel_rfl
 RK:=λF w=>by kernel_rfl
 R7:=λF w=>by kernel_rfl
 SC:=λargs w=>by kernel_rfl
 R2:=λargs w=>by kernel_rfl
 Se:=λargs w=>by kernel_rfl
 R9:=λargs w=>by kernel_rfl
 St:=λw k s i b ha hi=>by
  obtain⟨j,rfl,hj⟩:=cX hi;exact Dv (X:=s) (j:=(j:Int).toNat) ha hj
 RV:=λw k s i b ha hi=>by
  obtain⟨j,rfl,hj⟩:=cX hi;exact Hf ha hj
 Sc:=λw k s i b ha hi=>by
  obtain⟨j,rfl,hj⟩:=cX hi;have a:qr M k s:=b;exact Kt ha hj (a.l.step hj (by have:=a.o;have:=a.k1;omega)).2
 R8:=λw s i ha hi=>by
  obtain⟨j,rfl,hj⟩:=cX hi;exact rM ha hj
 ar:=λw s ha=>bQ.ar ha
 free:=λw s ha=>bQ.free ha
 stay:=λw w' s S ha c hs d=>bQ.stays ha c hs d
theorem A3:(DB M B).UQ where
 SL:=λF w=>by kernel_rfl
 SH:=λargs w=>by kernel_rfl
 SG:=λw s i ha hi=>by
  obtain⟨j,rfl,hj⟩:=cX hi;exact Hc ha hj
end
def ik(w:World)(Z:List Nat)(L:List TypeId):Prop:=∀z∈Z,∃vs U,aq w z vs U/\U∈L
variable{Z:List Nat}{L:List TypeId}{b:Nat}{vs:List Value}{T:TypeId}
theorem ik.not{w:World}(h:ik w Z L)(a:aq w b vs T)(ht:T∉L):b∉Z:=λhm=>by
 obtain⟨us,U,c,hl⟩:=h b hm;exact am rfl (a.differ c (λe=>ht (e ▸ hl)))
theorem ik.nil(w:World)(L:List TypeId):ik w [] L:=λz a=>by simp at a
theorem ik.one{w:World}(h:aq w b vs T):ik w [b] [T]:=λz a=>by
 obtain rfl:z=b:=by simpa using a
 exact⟨vs,T,h,by simp⟩
variable{s k g:Nat}{v:Value}{xs:List Value}
theorem Ex{w:World}(h:w.ownsRow b T s v k xs)(a:v.ownBlock=some g):∃vs,aq w g vs T:=by
 rcases h.2 with⟨rfl,_⟩|⟨c,cap,cur,rfl,_,d,_⟩
 ·simp[Value.ownBlock] at a
 ·have:c=g:=nE a;subst this;exact⟨cur.toList,by unfold aq;simpa using d⟩
theorem ik.own{w:World}(h:w.ownsRow b T s v k xs):ik w v.ownBlock.toList [T]:=λz a=>by
 obtain⟨vs,hv⟩:=Ex h (g:=z) (by simpa using a);exact⟨vs,T,hv,by simp⟩
variable{w':World}
theorem kN{w:World}(h:w.ownsRow b T s v k xs)(a:af Z w w')(d:ik w Z L)(ht:T∉L):w'.ownsRow b T s v k xs:=
 bR h a λg c=>by
  obtain⟨vs,hv⟩:=Ex h c;exact d.not hv ht
theorem IR.Si{w:World}{zs:List Int}(h:IR w g v zs)(b:af Z w w')(d:ik w Z L)(ht:3∉L):IR w' g v zs:=by
 have a:=h;obtain⟨_,_,_,c,_⟩:=h;exact a.Rr b (d.not c ht)
variable{A:AR}
theorem ax.Si{w:World}{ab wb:Nat}(h:ax w ab wb A)(b:af Z w w')(a:ik w Z L)(h1:93∉L)(h2:158∉L):ax w' ab wb A:=h.Rr b (a.not h.box h1) (a.not h.row h2)
theorem qF{w:World}(h:w.ownsRow b T 1 v k xs)(j:1<=k):∃g cap,v= .slice (some ⟨g,0,none⟩) k cap/\∀i u,xs[i]? =some u->w.cell? ⟨g,i,none⟩=some u:=by
 obtain⟨h1,⟨_,h2⟩|⟨g,cap,cur,rfl,f,d,hn,e,a,ht⟩⟩:=h
 ·omega
 ·refine⟨g,cap,rfl,λi u c=>?_⟩;unfold World.cell?;dsimp only;rw[d];show cur[i]? =_;have hi:=(pH.1 c).1;have h3:(cur.toList.take (k*1))[i]? =some u:=by rw[ht,c]
  rw[y5 aO] at h3;rw[<-FF,h3]
def Gk(w:World)(tb:Nat)(P T:List Int):Prop:=sO w tb P T\/(jG w tb P T/\Aw w tb P T)
section
variable{w w':World}{tb:Nat}{P T:List Int}{Z:List Nat}{L:List TypeId}
theorem jG.Si(h:jG w tb P T)(c:af Z w w')(d:ik w Z L)(h1:136∉L)(h2:3∉L):jG w' tb P T:=by
 obtain⟨j,k,e,a,b,i,gt,gn,gs,gm,a1,a2,a3,f,g⟩:=h;exact⟨j,k,e,a,b,i,gt,gn,gs,gm,a1.Rr c (d.not a1 h1),a2.Si c d h2,a3.Si c d h2,f.Si c d h2,g.Si c d h2⟩
theorem Aw.Si(h:Aw w tb P T)(c:af Z w w')(d:ik w Z L)(h1:136∉L)(h2:3∉L)(h3:22∉L):Aw w' tb P T:=by
 obtain⟨k,l,e,a,b,j,U,a1,a2,a3⟩:=h;exact⟨k,l,e,a,b,j,U,a1.Rr c (d.not a1 h1),kN a2 c d h3,λi hi=>by
  obtain⟨v,f,g⟩:=a3 i hi;exact⟨v,f,kN g c d h2⟩⟩
theorem sO.Si(h:sO w tb P T)(a:af Z w w')(b:ik w Z L)(h1:136∉L)(h2:3∉L):sO w' tb P T:=by
 obtain⟨c,d,gp,gt,a1,a2,a3⟩:=h;exact⟨c,d,gp,gt,a1.Rr a (b.not a1 h1),a2.Si a b h2,a3.Si a b h2⟩
theorem Gk.box(h:Gk w tb P T):∃vs,aq w tb vs 136:=by
 rcases h with⟨_,_,_,_,h,_⟩|⟨⟨_,_,_,_,_,_,_,_,_,_,h,_⟩,_⟩
 ·exact⟨_,h⟩
 ·exact⟨_,h⟩
theorem Fi(h:sO w tb P T)(hs:ea P T):Calls prog 87 #[some tb] w λe w'=>e= .returned (.int .i64 (tE P).length)/\(jG w' tb P T/\Aw w' tb P T)/\af [tb] w w':=by
 have g:=aH (nR h hs);clear h hs;go_enter func87,ntmps87;go_wp2_with fail;refine gF g.o ?_;rintro w' ⟨d,f,a⟩;have j:=aH (ae (ae d f) a);obtain⟨n,o,l,b,c,m,gt,gn,gs,gm,h1, -, -, -,⟨cap,cur,rfl, -⟩⟩:=d;have k:=h1.cell (i:=8) rfl;rw[kZ] at k;clear h1 a f;go_wp2;go_ret;exact⟨rfl,j.o⟩
variable{v:Nat}
theorem Fh(h:sO w tb P T)(hs:ea P T)(hv:v<(tE P).length):Calls prog 88 #[some tb,v] w λe w'=>e= .returned (T.count ((tE P)[v]?.getD 0):Nat)/\(jG w' tb P T/\Aw w' tb P T)/\af [tb] w w':=by
 have m:=aH (Fi h hs);have d1:decide ((v:Int)<0)=false:=by simp
 have d2:decide (((tE P).length:Int)<=(v:Int))=false:=by simp;omega
 have d3:decide ((tE P).length<=v)=false:=by simp;omega
 have HV:=aH hv;obtain⟨y,c⟩:∃y,y=((T.count ((tE P)[v]?.getD 0):Nat):Int):=⟨_,rfl⟩
 rw[<-c];have o:=aH c;have l1:(v:Int)<(tE P).length:=by omega
 clear h hs hv c;go_enter func88,ntmps88;go_wp2_with fail;refine gF m.o ?_;rintro w' ⟨⟨b,j⟩,a⟩;have n:=aH (ae (ae b j) a);have l:=aH (f8 b);obtain⟨t,u,r,d,f,s,gt,gn,gs,gm,h1, -, -, -,h3⟩:=b;have q:=nm h3 (k:=v) (by have:=HV.o;simpa using this);have g:((tE P).map λx=>(T.count x:Int))[v]?.getD 0=((T.count ((tE P)[v]?.getD 0):Nat):Int):=by have:=HV.o;simp[this]
 rw[g,<-o.o] at q;obtain⟨cap,cur,rfl, -⟩:=h3;have p:=h1.cell (i:=8) rfl;rw[kZ] at p;clear h1 g j a;go_wp2_with fail;refine gF l.o ?_;rintro w' rfl;go_wp2;go_ret;exact⟨rfl,n.o⟩
theorem Fg(h:Gk w tb P T)(hs:ea P T)(hv:v<(tE P).length):Calls prog 88 #[some tb,v] w λe w'=>e= .returned (T.count ((tE P)[v]?.getD 0):Nat)/\(jG w' tb P T/\Aw w' tb P T)/\af [tb] w w':=by
 rcases h with h|⟨h,q⟩
 ·exact Fh h hs hv
 ·exact(wZ h hv).mono (λe w' r=>⟨r.1,r.2 ▸ ⟨h,q⟩,r.2 ▸ aF⟩)
theorem OQ(h:jG w tb P T)(r:Aw w tb P T){i:Nat}(hi:i<T.length)(hs:ea P T):Calls prog 91 #[some tb,i] w λe w'=>∃u,e= .returned u/\oA w' w.heap.size u (cg P T i)/\af [] w w':=by
 have p:=aH (yS h hi);have o:=aH (f8 h);obtain⟨D,E,s,c,d,C,U,h1,h2,h3⟩:=r;obtain⟨g,cap,rfl,k⟩:=qF h2 aO;obtain⟨u,m,b⟩:=h3 i hi;have y:=k i u m;have hl:=uw hs hi;have n:=aH (oE (w:=w) (v:=u) (zs:=cg P T i) (oA.row (base:=0) b) hl.1 aO);have t:=h1.cell (i:=5) rfl;have l1:(i:Int)<T.length:=by omega
 have l:= @aX prog;obtain⟨z,B,A,rfl⟩:=dm b;clear h h1 h2 h3 k m b hs hl;go_enter func91,ntmps91;go_wp2_with fail;refine gF p.o ?_;rintro w' rfl;go_wp2_with fail;refine gF o.o ?_;rintro w' rfl;go_wp2_with fail;refine n.o.mono ?_;rintro e w' ⟨x,rfl,j,f⟩;have q:=aH j;have a:=aH f;clear j f;go_wp2;go_ret;exact⟨x,rfl,q.o,a.o⟩
end
def iZ(P:List Int)(v:Nat):Nat:=((List.range v).filter λu:Nat=> !decide ((u:Int)∈P)).length
theorem A4(P:List Int)(v:Nat):iZ P (v+1)=if(v:Int)∈P then iZ P v else iZ P v+1:=by
 unfold iZ;rw[xr,Jb,FR];by_cases h:(v:Int)∈P<;>simp[h]
variable{v:Nat}{P:List Int}
theorem Hg(hv:v<P.length)(h:(v:Int)∉P):iZ P v<(tE P).length/\(tE P)[iZ P v]?.getD 0=(v:Int):=by
 have a:∀(n m:Nat),v<n->n<=m->(((List.range n).filter λu:Nat=> !decide ((u:Int)∈P)))[iZ P v]? =some v:=by
  intro n m hn hm;induction n with
  |zero=>omega
  |succ n c=>
   rw[xr,Jb];by_cases e:v=n
   ·subst e;have b:(List.filter (λu:Nat=> !decide ((u:Int)∈P)) [v])=[v]:=by simp[h]
    unfold iZ;rw[b,I5 (ba _),Nat.sub_self];rfl
   ·have:=c aO aO;rw[BJ (pH.1 this).1];exact this
 have k:=a P.length P.length hv (ba _);have e:(tE P)[iZ P v]? =some (v:Int):=by
  unfold tE du;rw[iL,k];rfl
 exact⟨(pH.1 e).1,by rw[e];rfl⟩
theorem A7:(dM P (v:Int) P.length).length=0↔(v:Int)∉P:=by
 constructor
 ·intro h hm;obtain⟨i,hi⟩:=FO hm;have hl:=(pH.1 hi).1;have:((i:Nat):Int)∈dM P (v:Int) P.length:=nZ.2 ⟨i,hl,by rw[hi];rfl,rfl⟩;rw[BL.1 h] at this;simp at this
 ·intro h;rw[BL,List.eq_nil_iff_forall_not_mem];intro x b;obtain⟨i,hi,a,_⟩:=nZ.1 b;refine h ?_;rw[<-a,eB hi];exact lB hi
def rk(q:Int):Nat:=if q=1 then 6 else if q=2 then 5 else if q=3 then 4 else if q=4 then 3 else if q=5 then 2 else if q=6 then 1 else if q=11 then 4 else if q=12 then 3 else if q=13 then 2 else if q=14 then 1 else if q=15 then 2 else if q=16 then 1 else 0
def jI(n b:Nat)(A:AR)(S:Nat->Nat->Int)(j:Nat):Prop:=S j 0=5/\A.get (dE ⟨n,b⟩ ((j:Int)+1))=0\/S j 0=13/\A.get (dT ⟨n,b⟩ ((j:Int)+1))=0
theorem OJ{n:Nat}{S:Nat->Nat->Int}(h:1<=S j 0/\S j 0<=6\/11<=S j 0/\S j 0<=16):rk (eF ⟨n,b⟩ ⟨A,S⟩ j).2<rk (S j 0)/\¬jI n b A S j\/jI n b A S j/\(eF ⟨n,b⟩ ⟨A,S⟩ j).2=S j 0/\∀i,(eF ⟨n,b⟩ ⟨A,S⟩ j).1.A.get i=A.get i:=by
 have g:S j 0=1\/S j 0=2\/S j 0=3\/S j 0=4\/S j 0=5\/S j 0=6\/S j 0=11\/S j 0=12\/S j 0=13\/S j 0=14\/S j 0=15\/S j 0=16:=by omega
 have go:∀{x:Int},(eF ⟨n,b⟩ ⟨A,S⟩ j).2=x->S j 0≠5->S j 0≠13->rk x<rk (S j 0)->rk (eF ⟨n,b⟩ ⟨A,S⟩ j).2<rk (S j 0)/\¬jI n b A S j\/jI n b A S j/\(eF ⟨n,b⟩ ⟨A,S⟩ j).2=S j 0/\∀i,(eF ⟨n,b⟩ ⟨A,S⟩ j).1.A.get i=A.get i:=λe h5 f k=>.inl ⟨by rw[e];exact k,λs=>by unfold jI at s;omega⟩;have a:∀{p:Prop}[Decidable p]{x y:Int},(eF ⟨n,b⟩ ⟨A,S⟩ j).2=(if p then x else y)->S j 0≠5->S j 0≠13->rk x<rk (S j 0)->rk y<rk (S j 0)->_:=λe h5 f m o=>go e h5 f (by split;exact m;exact o);rcases g with q|q|q|q|q|q|q|q|q|q|q|q
 ·exact go (x:=2) (by unfold eF;simp only[q,bt];rfl) aO aO (by rw[q];decide)
 ·exact go (x:=3) (by unfold eF;simp only[q,Int.reduceEq,bt,br];rfl) aO aO (by rw[q];decide)
 ·exact a (x:=6) (y:=4) (by unfold eF;simp only[q,Int.reduceEq,bt,br];rfl) aO aO (by rw[q];decide) (by rw[q];decide)
 ·exact go (x:=5) (by unfold eF;simp only[q,Int.reduceEq,bt,br];rfl) aO aO (by rw[q];decide)
 ·have e:eF ⟨n,b⟩ ⟨A,S⟩ j=wP ⟨n,b⟩ ⟨A,S⟩ j:=by unfold eF;simp only[q,Int.reduceEq,bt,br]
  rw[e];unfold wP jI;dsimp only;by_cases c:0<A.get (dE ⟨n,b⟩ ((j:Int)+1))
  ·rw[ad c];exact .inl ⟨by rw[q];show rk 10<rk 5;decide,λs=>by omega⟩
  ·rw[ac c];by_cases d:A.get (dE ⟨n,b⟩ ((j:Int)+1))<0
   ·exact .inl ⟨by rw[q];dsimp only;rw[ad d];decide,λs=>by omega⟩
   ·exact .inr ⟨.inl ⟨q,by omega⟩,by dsimp only;rw[ac d,q],λi=>aw⟩
 ·exact go (x:=10) (by unfold eF;simp only[q,Int.reduceEq,bt,br];rfl) aO aO (by rw[q];decide)
 ·exact a (x:=12) (y:=14) (by unfold eF;simp only[q,Int.reduceEq,bt,br];rfl) aO aO (by rw[q];decide) (by rw[q];decide)
 ·exact a (x:=0) (y:=13) (by unfold eF;simp only[q,Int.reduceEq,bt,br];rfl) aO aO (by rw[q];decide) (by rw[q];decide)
 ·have e:eF ⟨n,b⟩ ⟨A,S⟩ j=px ⟨n,b⟩ ⟨A,S⟩ j:=by unfold eF;simp only[q,Int.reduceEq,bt,br]
  rw[e];unfold px jI;dsimp only;by_cases c:A.get (dT ⟨n,b⟩ ((j:Int)+1))=0
  ·rw[ad c];exact .inr ⟨.inr ⟨q,c⟩,q.symm,λi=>aw⟩
  ·rw[ac c];exact .inl ⟨by rw[q];show rk 14<rk 13;decide,λs=>by omega⟩
 ·exact go (x:=0) (by unfold eF;simp only[q,Int.reduceEq,bt,br];rfl) aO aO (by rw[q];decide)
 ·exact a (x:=10) (y:=16) (by unfold eF;simp only[q,Int.reduceEq,bt,br];rfl) aO aO (by rw[q];decide) (by rw[q];decide)
 ·exact go (x:=0) (by unfold eF;simp only[q,Int.reduceEq,bt,br];rfl) aO aO (by rw[q];decide)
def tI(d c:Nat)(s q:Int):Nat:=if s=1 then 10*d+3+8*(d - c)+rk q else if s=10 then 10*d+3 else if s=11 then 6*d+4*(d - c)+rk q else if s=12 then 6*c+rk q else 0
def lh(M:eD)(X:fB)(t:Nat):Nat:=tI (M.d t) (dk X t) (X.S t 0) (bB M X.R t (dk X t))
def dY(M:eD)(X:fB)(t:Nat):Prop:=(X.S t 0=1\/X.S t 0=11\/X.S t 0=12)/\jI (M.sz (M.pl t (dk X t))) (M.tl (M.pl t (dk X t))) X.A (X.R (M.pl t (dk X t))) (M.sl t (dk X t))
def jo(M:eD)(X X':fB)(j:Nat):Prop:=∀u,u<M.n->u≠j->(∀τ,X'.S u τ=X.S u τ)/\∀k,k<M.d u->jN M X.R u k->bB M X'.R u k=bB M X.R u k
section
variable{M:eD}{X X1 X':fB}{ph:Nat->HP}{j l c u:Nat}{A:AR}{R:Nat->Nat->Nat->Int}{S':Nat->Nat->Int}
theorem jo.trans(h:jo M X X1 j)(f:jo M X1 X' j):jo M X X' j:=λu d a=>by
 obtain⟨a1,a2⟩:=h u d a;obtain⟨b1,e⟩:=f u d a;exact⟨λτ=>(b1 τ).trans (a1 τ),λk b lo=>(e k b λm hm=>by rw[a2 m aO λi hi=>lo i aO];exact lo m hm).trans (a2 k b lo)⟩
theorem fG.S4(h:fG M A R ph)(hj:j<M.n)(hl:l<M.d j)(lo:jN M R j l)(d:∀k,k≠M.sl j l->S' k 0=R (M.pl j l) k 0):∀u,u<M.n->u≠j->∀k,k<M.d u->jN M R u k->bB M (dL R (M.pl j l) S') u k=bB M R u k:=λu i a k g b=>by
 unfold bB dL;by_cases e:M.pl u k=M.pl j l
 ·rw[ad e];by_cases f:M.sl u k=M.sl j l
  ·exact am (Qg h.T h.rg i hj k l g hl b lo e f).1 a
  ·rw[d _ f,e]
 ·rw[ac e]
theorem o9(h:∀m,m<l->bB M R j m=10):jN M R j l:=λk a=>.inl (h k a)
theorem fG.T5(h:fG M X.A X.R ph)(hj:j<M.n)(hl:l<M.d j)(lo:jN M X.R j l)(d:bB M X.R j l≠0)(h1:bB M X.R j l≠10):jo M X {X with A:=(dA M X.A X.R j l).1.A,R:=en M X.A X.R j l} j:=λu e a=>
 ⟨λ_=>rfl,h.S4 hj hl lo (λk b=>(aj _ _ _ _ b).trans ((lY h hj hl d h1).ot k b 0)) u e a⟩
variable{b:Nat->Nat->Int}
theorem fG.Uf(h:fG M X.A X.R ph)(hj:j<M.n)(hl:l<M.d j)(lo:jN M X.R j l)(d:bB M X.R j l=0)(e:∀u,u≠j->∀τ,b u τ=X.S u τ):jo M X {X with R:=eR M X.R j l,S:=b} j:=λu g a=>
 ⟨e u a,by rw[show({X with R:=eR M X.R j l,S:=b}:fB).R=_ from pf h.T hj hl d];exact h.S4 hj hl lo (λk f=>aj _ _ _ _ f) u g a⟩
theorem fG.S7(h:fG M X.A X.R ph)(hj:j<M.n)(hl:l<M.d j)(lo:jN M X.R j l)(e:bB M X.R j l=10){pc v:Int}(f:∀u,u≠j->∀τ,b u τ=X.S u τ):jo M X {X with R:=cY M X.R j l pc v,S:=b} j:=λu g a=>
 ⟨f u a,by rw[show({X with R:=cY M X.R j l pc v,S:=b}:fB).R=_ from nk h.T hj hl e pc];exact h.S4 hj hl lo (λk d=>(aj _ _ _ _ d).trans (aj _ _ _ _ d)) u g a⟩
theorem qs.lo(h:qs M X)(d:u<M.n)(f:X.S u 0≠0)(h1:X.S u 0≠10):dk X u<M.d u/\jN M X.R u (dk X u)/\(X.S u 0=1/\1<=bB M X.R u (dk X u)/\bB M X.R u (dk X u)<=6\/X.S u 0=11/\(bB M X.R u (dk X u)=15\/bB M X.R u (dk X u)=16)\/X.S u 0=12/\11<=bB M X.R u (dk X u)/\bB M X.R u (dk X u)<=14):=by
 obtain⟨ph,g,ha⟩:=h;have a:=ha u d;have b:=g.P u d;cases e:ph u with
 |rest=>rw[e] at a;exact am a f
 |hold=>rw[e] at a;exact am a h1
 |T3 c=>rw[e] at a;exact a.elim
 |down c=>rw[e] at a;exact a.elim
 |Tf c=>rw[e] at a b;rw[fq a.2];exact⟨b.1,o9 b.2.1,.inl ⟨a.1,b.2.2⟩⟩
 |pass c=>rw[e] at a b;rw[fq a.2];exact⟨by have:=b.1;omega,λk i=>.inl (b.2.1 k (by have:=b.1;omega) aO),.inr (.inl ⟨a.1,b.2.2⟩)⟩
 |out c=>rw[e] at a b;rw[fq a.2];exact⟨b.1,o9 b.2.1,.inr (.inr ⟨a.1,b.2.2.1⟩)⟩
theorem jo.w(h:jo M X X' j)(g:qs M X)(f:u<M.n)(d:u≠j):lh M X' u=lh M X u:=by
 obtain⟨a,b⟩:=h u f d;unfold lh dk;rw[a,a];by_cases e:X.S u 0=0\/X.S u 0=10
 ·unfold tI;rcases e with e|e<;>simp[e]
 ·obtain⟨l1,i, -⟩:=g.lo f (λx=>e (.inl x)) (λx=>e (.inr x));have:=b _ l1 i;unfold dk at this;rw[this]
end
theorem EV:(prog.info? 209).map (λi=>(i.zero,i.size,i.bytes))=some (some (.pointer none),1,8):=by kernel_rfl
theorem H4:(prog.info? 212).map (λi=>(i.zero,i.size,i.bytes))=some (some (.slice none 0 0),1,24):=by kernel_rfl
theorem Fa:(prog.info? 215).map (λi=>(i.zero,i.size,i.bytes))=some (some (.agg #[.pointer none,(0:Int)]),2,16):=by kernel_rfl
def qc(P T:List Int)(rl:Nat->Nat)(i:Nat):Nat->List Value
 | 0=>[]
 |j+1=>qc P T rl i j++[.pointer (some ⟨rl (fP P T i j),0,none⟩),.int .i64 (jY P T i j)]
theorem Dz(P T:List Int)(rl:Nat->Nat)(i j:Nat):(qc P T rl i j).length=j*2:=by
 induction j with
 |zero=>rfl
 |succ j a=>
  show(qc P T rl i j++_).length=_;rw[FR,a,xp,xp,FV];omega
theorem Dy(P T:List Int)(rl:Nat->Nat)(i:Nat){l:Nat}(h:l<j):(qc P T rl i j)[l*2]? =some (.pointer (some ⟨rl (fP P T i l),0,none⟩))/\(qc P T rl i j)[l*2+1]? =some (.int .i64 (jY P T i l)):=by
 induction j with
 |zero=>omega
 |succ j a=>
  show(qc P T rl i j++_)[l*2]? =_/\(qc P T rl i j++_)[l*2+1]? =_;have hl:=Dz P T rl i j;by_cases e:l=j
  ·subst e;rw[I5 aO,I5 aO,hl,Nat.sub_self,Nat.add_sub_cancel_left];exact⟨rfl,rfl⟩
  ·rw[BJ aO,BJ aO];exact a aO
structure nG(w:World)(P T:List Int)(A:AR)(bud:Int)(lb sb ab wb:Nat)(rl rs:Nat->Nat)(vr vl:Value)(base v m:Nat):Prop where
 box:aq w lb [bud,vr,vl,.slice (some ⟨sb,0,none⟩) T.length T.length] 207
 row:aq w sb (dJ T.length λ_ _=>0) 138
 Td:w.ownsRow base 209 1 vr v ((List.range v).map λu=>Value.pointer (some ⟨rl u,0,none⟩))
 rg:∀u,u<m->eY w ⟨rl u,rs u,ab,wb⟩ ⟨jk P T u,A.taken+1+eV P T u⟩ ⟨A2 P T A m,λ_ _=>0⟩
 ar:ax w ab wb (A2 P T A m)
 Sg:(∀u,u<m->sb≠rs u/\base<=rs u)/\∀a b,a<m->b<m->rs a=rs b->a=b
 bs:base<=w.heap.size
structure B6(w:World)(P T:List Int)(rl lv:Nat->Nat)(vl:Value)(base k:Nat)(L:List Value):Prop where
 T9:w.ownsRow base 212 1 vl k L
 at_:∀i,i<k->∃cap,L[i]? =some (.slice (some ⟨lv i,0,none⟩) (cg P T i).length cap)
 TD:∀i,i<k->∃cells,aq w (lv i) cells 215/\∀l,l<(cg P T i).length->cells[l*2]? =some (.pointer (some ⟨rl (fP P T i l),0,none⟩))/\cells[l*2+1]? =some (.int .i64 (jY P T i l))
section
variable{w w' w1:World}{P T:List Int}{A:AR}{bud:Int}{lb sb ab wb:Nat}{rl rs lv:Nat->Nat}{vr vl v':Value}{base v m k:Nat}{L:List Value}{Z:List Nat}{Ts:List TypeId}{o:Obj}
theorem eY.Si{B:zd}{M:nJ}{X:lu}(h:eY w B M X)(a:af Z w w')(b:ik w Z Ts)(h1:247∉Ts)(h2:138∉Ts)(h3:93∉Ts)(h4:158∉Ts):eY w' B M X:=
 {box:=h.box.Rr a (b.not h.box h1),row:=h.row.Rr a (b.not h.row h2),ar:=h.ar.Si a b h3 h4,Ry:=h.Ry,tl:=h.tl}
def HMW:List TypeId:=[207,138,209,247,93,158]
theorem nG.Si(h:nG w P T A bud lb sb ab wb rl rs vr vl base v m)(a:af Z w w')(b:ik w Z Ts)(hn:∀U∈HMW,U∉Ts:=by decide):nG w' P T A bud lb sb ab wb rl rs vr vl base v m where
 box:=h.box.Rr a (b.not h.box (hn _ aJ))
 row:=h.row.Rr a (b.not h.row (hn _ aJ))
 Td:=kN h.Td a b (hn _ aJ)
 rg:=λu c=>(h.rg u c).Si a b (hn _ aJ) (hn _ aJ) (hn _ aJ) (hn _ aJ)
 ar:=h.ar.Si a b (hn _ aJ) (hn _ aJ)
 Sg:=h.Sg
 bs:=dv h.bs a.size
theorem nG.same(h:nG w P T A bud lb sb ab wb rl rs vr vl base v m)(a:af [] w w'):nG w' P T A bud lb sb ab wb rl rs vr vl base v m:=h.Si (Ts:=[]) a (ik.nil _ _)
theorem ax.S8(h:ax w ab wb A):ik w [ab,wb] [93,158]:=λz a=>by
 simp at a;rcases a with e|e
 ·subst e;exact⟨_,_,h.box,by simp⟩
 ·subst e;exact⟨_,_,h.row,by simp⟩
theorem nG.TU(h:nG w P T A bud lb sb ab wb rl rs vr vl base v v)(c:af [ab,wb] w w'){f l:Nat}(h1:w.heap.size<=f)(h2:w.heap.size<=l)(i:eY w' ⟨f,l,ab,wb⟩ ⟨jk P T v,A.taken+1+eV P T v⟩ ⟨A2 P T A (v+1),λ_ _=>0⟩):
 nG w' P T A bud lb sb ab wb (λu=>if u=v then f else rl u) (λu=>if u=v then l else rs u) vr vl base v (v+1) where
 box:=h.box.Rr c (h.ar.S8.not h.box aJ)
 row:=h.row.Rr c (h.ar.S8.not h.row aJ)
 Td:=by
  have:=kN h.Td c h.ar.S8 aJ;have e:((List.range v).map λu=>Value.pointer (some ⟨rl u,0,none⟩))=((List.range v).map λu=>Value.pointer (some ⟨if u=v then f else rl u,0,none⟩)):=by
   refine BM λu j=>?_;rw[ac (by rw[y7] at j;omega)]
  rw[e] at this;exact this
 rg:=λu j=>by
  by_cases e:u=v
  ·subst e;rw[ad rfl,ad rfl];exact i
  ·rw[ac e,ac e];have q:=h.rg u aO;exact{box:=q.box.Rr c (h.ar.S8.not q.box aJ),row:=q.row.Rr c (h.ar.S8.not q.row aJ),ar:=i.ar,Ry:=q.Ry,tl:=q.tl}
 ar:=i.ar
 Sg:=by
  have hs:=h.row.lt;have p:=h.bs;refine⟨λu j=>?_,λa b ha n e=>?_⟩
  ·by_cases e:u=v
   ·rw[ad e];omega
   ·rw[ac e];exact h.Sg.1 u aO
  ·by_cases g:a=v
   ·by_cases d:b=v
    ·omega
    ·rw[ad g,ac d] at e;have q:rs b<w.heap.size:=(h.rg b aO).row.lt;omega
   ·by_cases d:b=v
    ·rw[ac g,ad d] at e;have q:rs a<w.heap.size:=(h.rg a aO).row.lt;omega
    ·rw[ac g,ac d] at e;exact h.Sg.2 a b aO aO e
 bs:=dv h.bs c.size
theorem nG.Ss(h:nG w P T A bud lb sb ab wb rl rs vr vl base v m)(a:(w.alloc o).grownBy w1 vr.ownBlock):aq w1 lb [bud,vr,vl,.slice (some ⟨sb,0,none⟩) T.length T.length] 207:=
 h.box.Rr (bE a) ((ik.own h.Td).not h.box aJ)
theorem nG.grow(h:nG w P T A bud lb sb ab wb rl rs vr vl base v (v+1))(d:w1.ownsRow base 209 1 v' (v+1) (((List.range v).map λu=>Value.pointer (some ⟨rl u,0,none⟩))++[.pointer (some ⟨rl v,0,none⟩)]))(g:(w.alloc o).grownBy w1 vr.ownBlock):
 nG (w1.setCell (lb,1) v') P T A bud lb sb ab wb rl rs v' vl base (v+1) (v+1):=by
 have c:=bE g;have e:=ik.own h.Td;have f:=h.Ss g;have a:af [lb] w1 (w1.setCell (lb,1) v'):=aU;have b:=ik.one f;have ha:=h.ar.Si c e aJ aJ;refine{box:=f.set 1 v',row:=(h.row.Rr c (e.not h.row aJ)).Rr a (b.not (h.row.Rr c (e.not h.row aJ)) aJ),Td:=?_,rg:=λu i=>((h.rg u i).Si c e aJ aJ aJ aJ).Si a b aJ aJ aJ aJ,ar:=ha.Si a b aJ aJ,Sg:=h.Sg,bs:=dv h.bs (dv c.size a.size)};have:=kN d a b aJ;rw[xr,xu];exact this
theorem nG.Ub(h:nG w P T A bud lb sb ab wb rl rs vr vl base v m)(hv:B6 w P T rl lv vl base k L)(a:(w.alloc o).grownBy w1 vl.ownBlock):aq w1 lb [bud,vr,vl,.slice (some ⟨sb,0,none⟩) T.length T.length] 207:=
 h.box.Rr (bE a) ((ik.own hv.T9).not h.box aJ)
theorem nG.Vs(h:nG w P T A bud lb sb ab wb rl rs vr vl base v m)(hv:B6 w P T rl lv vl base k L)(c:(w.alloc o).grownBy w1 vl.ownBlock):nG (w1.setCell (lb,2) v') P T A bud lb sb ab wb rl rs vr v' base v m:=by
 have h1:=h.Si (bE c) (ik.own hv.T9);have a:af [lb] w1 (w1.setCell (lb,2) v'):=aU;have b:=ik.one h1.box;exact{box:=h1.box.set 2 v',row:=h1.row.Rr a (b.not h1.row aJ),Td:=kN h1.Td a b aJ,rg:=λu d=>(h1.rg u d).Si a b aJ aJ aJ aJ,ar:=h1.ar.Si a b aJ aJ,Sg:=h.Sg,bs:=dv h1.bs a.size}
def HMV:List TypeId:=[212,215]
theorem B6.Si(h:B6 w P T rl lv vl base k L)(a:af Z w w')(b:ik w Z Ts)(hn:∀U∈HMV,U∉Ts:=by decide):B6 w' P T rl lv vl base k L where
 T9:=kN h.T9 a b (hn _ aJ)
 at_:=h.at_
 TD:=λi hi=>by
  obtain⟨cells,c,d⟩:=h.TD i hi;exact⟨cells,c.Rr a (b.not c (hn _ aJ)),d⟩
theorem B6.grow(h:B6 w P T rl lv vl base k L)(hW:nG w P T A bud lb sb ab wb rl rs vr vl base v m){g cap E:Nat}{x:Value}(D:x= .slice (some ⟨g,0,none⟩) (cg P T k).length cap)(hl:w.ownsRow E 215 2 x (cg P T k).length (qc P T rl k (cg P T k).length))(hd:1<=(cg P T k).length)
 (r:w1.ownsRow base 212 1 v' (k+1) (L++[x]))(t:(w.alloc o).grownBy w1 vl.ownBlock):B6 (w1.setCell (lb,2) v') P T rl (λi=>if i=k then g else lv i) v' base (k+1) (L++[x]):=by
 have p:=bE t;have hz:=ik.own h.T9;have h1:=hW.Si p hz;have d:af [lb] w1 (w1.setCell (lb,2) v'):=aU;have f:=ik.one h1.box;have u:L.length=k:=by have:=h.T9.1;omega
 refine{T9:=kN r d f aJ,at_:=λi hi=>?_,TD:=λi hi=>?_}
 ·by_cases e:i=k
  ·subst e;rw[ad rfl,<-u];refine⟨cap,?_⟩;rw[I5 (ba _),Nat.sub_self,u,<-D];rfl
  ·rw[ac e];obtain⟨c,y⟩:=h.at_ i aO;exact⟨c,by rw[BJ aO];exact y⟩
 ·by_cases e:i=k
  ·subst e;rw[ad rfl];subst D;obtain⟨s,⟨q,_⟩|⟨F,c',cur,hv,_,G,hn,y,z,ht⟩⟩:=hl
   ·simp at q
   ·have n:g=F:=by injection hv with n;injection n with n;injection n
    subst n;have ha:aq w g cur.toList 215:=by unfold aq;simpa using G
    refine⟨cur.toList,(ha.Rr p (hz.not ha aJ)).Rr d (f.not (ha.Rr p (hz.not ha aJ)) aJ),λl hl=>?_⟩;have t:=Dy P T rl i hl;rw[<-ht,y5 aO,y5 aO] at t;exact t
  ·rw[ac e];obtain⟨cells,s,H⟩:=h.TD i aO;exact⟨cells,(s.Rr p (hz.not s aJ)).Rr d (f.not (s.Rr p (hz.not s aJ)) aJ),H⟩
theorem nG.done(h:nG w P T A bud lb sb ab wb rl rs vr vl base P.length P.length)(hv:B6 w P T rl lv vl base T.length L)(e:ea P T)(i:0<=bud/\bud<=1000):∃vb,bQ w ⟨lb,vb,lv,sb,ab,wb,rl,rs⟩ (NK P T A bud) ⟨A2 P T A P.length,λ_ _ _=>0,λ_ _=>0⟩:=by
 obtain⟨s1,s2,s3,s4⟩:=e.size;obtain⟨l,⟨_,q⟩|⟨g,cap,cur,d,_,j,hn,b,f,ht⟩⟩:=hv.T9
 ·omega
 ·subst d;have ha:aq w g cur.toList 212:=by unfold aq;simpa using j
  refine⟨g,{box:=⟨vr,cap,h.box⟩,Un:=⟨cur.toList,ha,λt a=>?_⟩,TD:=hv.TD,rg:=h.rg,row:=h.row,ar:=h.ar,Sg:=⟨λv hv=>(h.Sg.1 v hv).1,h.Sg.2⟩,ok:=(NM e i).ok}⟩;have a:t<T.length:=a;obtain⟨c,b⟩:=hv.at_ t a;rw[<-ht,y5 aO] at b;exact⟨c,b⟩
end
structure MG(M:eD)(X X':fB)(j:Nat)(R:Bool):Prop where
 S4:jo M X X' j
 wt:X.S j 0≠0->X.S j 0≠10->dY M X j\/lh M X' j<lh M X j
 idle:dY M X j->X'.S=X.S/\(∀i,X'.A.get i=X.A.get i)/\∀v i,X'.R v i 0=X.R v i 0
 ok:fH X.S X'.S j R
section
variable{M:eD}{X X1 X':fB}{ph:Nat->HP}{j l c u:Nat}
theorem rO:∀f l,l<=fx M X j f l
 | 0,_=>ba _
 |f+1,l=>by
  unfold fx;split
  ·exact ba _
  ·exact FL (rO f (l+1))
theorem DI{A:AR}{R:Nat->Nat->Nat->Int}{S:Nat->Nat->Int}{l:Nat}{x:Int}:dk ⟨A,R,aa (aa S j 3 (l:Int)) j 0 x⟩ j=l:=by
 unfold dk;show(aa (aa S j 3 (l:Int)) j 0 x j 3).toNat=l
 rw[bZ _ _ _ _ aO,ak];rfl
theorem fG.Uj(h:fG M X.A X.R ph)(hj:j<M.n)(g:ph j= .hold){l0:Nat}(hl:l0<M.d j):jo M X (es M X j l0) j/\lh M (es M X j l0) j<=6*M.d j+4*(M.d j - l0)+2/\10<(es M X j l0).S j 0:=by
 obtain⟨h1,h2⟩:=kJ (M:=M) (X:=X) (t:=j) (M.d j - l0) l0 aO aO;have h3:=rO (M:=M) (X:=X) (j:=j) (M.d j - l0) l0;unfold es gZ gz;generalize fx M X j (M.d j - l0) l0=l at*;have d:=h.P j hj;rw[g] at d;have lo:jN M X.R j l:=λk i=>.inl (d k aO);have ot:∀(S:Nat->Nat->Int)(a b:Int) u,u≠j->∀τ,aa (aa S j 3 a) j 0 b u τ=S u τ:=λS a b u f τ=>(aj _ _ _ _ f).trans (aj _ _ _ _ f);by_cases e:l+1=M.d j
 ·rw[ad e];have q:=(tD (v:=1) h.T hj h1 (d l h1) 11).1;refine⟨h.S7 hj h1 lo (d l h1) (ot _ _ _),?_,by show 10<aa _ j 0 12 j 0;rw[ak];omega⟩;unfold lh;rw[DI];show tI _ l (aa _ j 0 12 j 0) (bB M (cY M X.R j l 11 1) j l)<=_;rw[ak,q];show 6*l+4<=_;omega
 ·rw[ac e];have q:=(tD (v:=wrap64 (dG M X j l 1+1)) h.T hj h1 (d l h1) 15).1;refine⟨h.S7 hj h1 lo (d l h1) (ot _ _ _),?_,by show 10<aa _ j 0 11 j 0;rw[ak];omega⟩;unfold lh;rw[DI];show tI _ l (aa _ j 0 11 j 0) (bB M (cY M X.R j l 15 _) j l)<=_;rw[ak,q];show 6*M.d j+4*(M.d j - l)+2<=_;omega
theorem fG.UB(h:fG M X.A X.R ph)(hj:j<M.n)(f:ph j= .down c):jo M X (kI M X j c) j/\lh M (kI M X j c) j<=6*c/\((kI M X j c).S j 0=0\/10<(kI M X j c).S j 0):=by
 have b:=h.P j hj;rw[f] at b;unfold kI;cases c with
 |zero=>
  rw[ad rfl];exact⟨λu e d=>⟨λτ=>aj _ _ _ _ d,λ_ _ _=>rfl⟩,by unfold lh;show tI _ _ (aa X.S j 0 0 j 0) _<=_;rw[ak];exact fA _,.inl (ak _ _ _ _)⟩
 |succ c=>
  rw[ac aO];have h1:c<M.d j:=by have:=b.1;omega
  have a:=b.2.1 c aO;have q:=(tD (v:= -1) h.T hj h1 a 11).1;refine⟨h.S7 hj h1 (o9 λm hm=>b.2.1 m aO) a (λu e τ=>(aj _ _ _ _ e).trans (aj _ _ _ _ e)),?_,.inr (by show 10<aa _ j 0 12 j 0;rw[ak];omega)⟩;unfold lh;rw[DI];show tI _ c (aa _ j 0 12 j 0) (bB M (cY M X.R j c 11 (-1)) j c)<=_;rw[ak,q];show 6*c+4<=_;omega
theorem vX{R:Bool}(h:jo M X X' j)(ht:∀u,u≠j->X'.S u 0=X.S u 0)(e:X.S j 0=1/\(X'.S j 0=1/\R=false\/X'.S j 0=10/\R=true)\/10<X.S j 0/\(10<X'.S j 0/\R=false\/X'.S j 0=0/\R=true)):fH X.S X'.S j R:=
 ⟨ht,λa b=>by rcases e with⟨_,⟨c,d⟩|⟨c,d⟩⟩|⟨c,_⟩<;>first|omega|(rw[c,d];simp),λa=>by rcases e with⟨c,_⟩|⟨_,⟨c,d⟩|⟨c,d⟩⟩<;>first|omega|(rw[d];simp;omega)|(rw[c,d];simp),λa=>by omega⟩
theorem qs.live(h:qs M X)(hj:j<M.n)(ho:X.A.ops<1000000000):MG M X (eK M X j (dk X j)) j (rN M X j (dk X j)):=by
 by_cases s:X.S j 0=0\/X.S j 0=10
 ·have N:eK M X j (dk X j)=X:=by unfold eK;rw[ad s]
  have O:rN M X j (dk X j)=false:=by unfold rN;rw[ef s];rfl
  rw[N,O];exact⟨λu _ _=>⟨λ_=>rfl,λ_ _ _=>rfl⟩,λa b=>by omega,λa=>by unfold dY at a;omega,⟨λ_ _=>rfl,λa b=>by omega,λa=>by omega,λ_=>⟨rfl,rfl⟩⟩⟩
 obtain⟨D,lo,RC⟩:=h.lo hj (λx=>s (.inl x)) (λx=>s (.inr x));obtain⟨ph,p,ha⟩:=h;generalize w:dk X j=c at*;have h1:bB M X.R j c≠0:=by omega
 have h2:bB M X.R j c≠10:=by omega
 obtain⟨Q,P⟩:=wU (M:=M) (X:=X) (t:=j) (c:=c) h1 h2;have g:=lY p hj D h1 h2;have o1:=p.T5 hj D lo h1 h2;have o:=OJ (n:=M.sz (M.pl j c)) (b:=M.tl (M.pl j c)) (A:=X.A) (S:=X.R (M.pl j c)) (j:=M.sl j c) (show _\/_ from by have e:X.R (M.pl j c) (M.sl j c) 0=bB M X.R j c:=rfl;omega);have F:bB M (en M X.A X.R j c) j c=(dA M X.A X.R j c).2:=(nl p.T hj D).trans (ak _ _ _ _);have G:dY M X j↔jI (M.sz (M.pl j c)) (M.tl (M.pl j c)) X.A (X.R (M.pl j c)) (M.sl j c):=by
  unfold dY;rw[w];exact⟨λx=>x.2,λx=>⟨by omega,x⟩⟩
 have w0:lh M X j=tI (M.d j) c (X.S j 0) (bB M X.R j c):=by unfold lh;rw[w]
 have w1:lh M {X with A:=(dA M X.A X.R j c).1.A,R:=en M X.A X.R j c} j=tI (M.d j) c (X.S j 0) (dA M X.A X.R j c).2:=by
  unfold lh;rw[show dk {X with A:=(dA M X.A X.R j c).1.A,R:=en M X.A X.R j c} j=c from w];show tI _ c (X.S j 0) (bB M (en M X.A X.R j c) j c)=_;rw[F]
 have o:rk (dA M X.A X.R j c).2<rk (bB M X.R j c)/\¬dY M X j\/dY M X j/\(dA M X.A X.R j c).2=bB M X.R j c/\∀i,(dA M X.A X.R j c).1.A.get i=X.A.get i:=by rw[G];exact o
 have T:∀H,rk H<rk (bB M X.R j c)->tI (M.d j) c (X.S j 0) H<tI (M.d j) c (X.S j 0) (bB M X.R j c):=λH B=>by
  unfold tI;rcases RC with⟨a,_⟩|⟨a,_⟩|⟨a,_⟩<;>simp only[a,Int.reduceEq,bt,br]<;>omega
 unfold rN eK;rw[ac s,dh s,P,Q];by_cases z:((dA M X.A X.R j c).2==0||(dA M X.A X.R j c).2==10)=false
 ·rw[ad z,z];refine⟨o1,λ_ _=>?_,λhs=>?_,vX o1 (λ_ _=>rfl) (by rcases RC with⟨a,_⟩|⟨a,_⟩|⟨a,_⟩;exact .inl ⟨a,.inl ⟨a,rfl⟩⟩;exact .inr ⟨by omega,.inl ⟨by show 10<X.S j 0;omega,rfl⟩⟩;exact .inr ⟨by omega,.inl ⟨by show 10<X.S j 0;omega,rfl⟩⟩)⟩
  ·rcases o with⟨a,_⟩|⟨a,_⟩
   ·exact .inr (by rw[w1,w0];exact T _ a)
   ·exact .inl a
  ·rcases o with⟨_,b⟩|⟨_,b,d⟩
   ·exact am hs b
   ·refine⟨rfl,d,λv i=>?_⟩;show dL X.R (M.pl j c) (aa (dA M X.A X.R j c).1.S (M.sl j c) 0 (dA M X.A X.R j c).2) v i 0=_;unfold dL;by_cases e:v=M.pl j c
    ·rw[ad e];by_cases f:i=M.sl j c
     ·rw[f,ak,b,e];rfl
     ·rw[aj _ _ _ _ f,g.ot i f,e]
    ·rw[ac e]
 ·have L:((dA M X.A X.R j c).2==0||(dA M X.A X.R j c).2==10)=true:=by
   revert z;cases((dA M X.A X.R j c).2==0||(dA M X.A X.R j c).2==10)<;>simp
  rw[ac z,L];have zz:(dA M X.A X.R j c).2=0\/(dA M X.A X.R j c).2=10:=by
   by_cases y:(dA M X.A X.R j c).2=0
   ·exact .inl y
   ·exact .inr (by simpa[y] using L)
  have K:¬dY M X j:=by
   rcases o with⟨_,b⟩|⟨_,b,_⟩
   ·exact b
   ·omega
  have fin:∀X',jo M {X with A:=(dA M X.A X.R j c).1.A,R:=en M X.A X.R j c} X' j->lh M X' j<tI (M.d j) c (X.S j 0) (bB M X.R j c)->(X.S j 0=1/\(X'.S j 0=1\/X'.S j 0=10)\/10<X.S j 0/\(10<X'.S j 0\/X'.S j 0=0))->(∀u,u≠j->X'.S u 0=X.S u 0)->MG M X X' j (!false&&(true&&(X'.S j 0==10||X'.S j 0==0))):=λX' o2 W V m=>
   ⟨o1.trans o2,λ_ _=>.inr (by rw[w0];exact W),λa=>am a K,vX (o1.trans o2) m (by
    rcases V with⟨a,b|b⟩|⟨a,b|b⟩
    ·exact .inl ⟨a,.inl ⟨b,by rw[b];rfl⟩⟩
    ·exact .inl ⟨a,.inr ⟨b,by rw[b];rfl⟩⟩
    ·exact .inr ⟨a,.inl ⟨b,by simp;omega⟩⟩
    ·exact .inr ⟨a,.inr ⟨b,by rw[b];rfl⟩⟩)⟩
  have B:=p.P j hj;have hs:=ha j hj;cases e:ph j with
  |rest=>rw[e] at hs;exact am (.inl hs) s
  |hold=>rw[e] at hs;exact am (.inr hs) s
  |T3 c=>rw[e] at hs;exact hs.elim
  |down c=>rw[e] at hs;exact hs.elim
  |Tf c'=>
   rw[e] at hs B;obtain rfl:c'=c:=by have:=fq hs.2;omega
   have s0:=hs.1;rcases p.Vl hj e ho with⟨Y,C, -⟩|⟨q,⟨C,k⟩|⟨C,I,k⟩⟩
   ·omega
   ·unfold iY o8;rw[ad s0,ad (by rw[rJ.1];exact C)];refine fin _ (λu m E=>⟨λτ=>aj _ _ _ _ E,λ_ _ _=>rfl⟩) ?_ (.inl ⟨s0,.inr (ak _ _ _ _)⟩) (λu m=>aj _ _ _ _ m);unfold lh;show tI _ _ (aa X.S j 0 10 j 0) _<_;rw[ak,s0];show 10*M.d j+3<10*M.d j+3+8*(M.d j - c')+_;omega
   ·unfold iY o8;rw[ad s0,ac (by rw[rJ.1];omega)];have r:=k.P j hj;rw[mo] at r;refine fin _ (fG.Uf (X:={X with A:=(dA M X.A X.R j c').1.A,R:=en M X.A X.R j c'}) k hj I (o9 r.2.1) r.2.2 (λu m τ=>aj _ _ _ _ m)) ?_ (.inl ⟨s0,.inl ((bZ _ _ _ _ aO).trans s0)⟩) (λu m=>aj _ _ _ _ m);unfold lh;have lv:dk {X with A:=(dA M X.A X.R j c').1.A,R:=eR M (en M X.A X.R j c') j (c'+1),S:=aa X.S j 3 ((c':Int)+1)} j=c'+1:=fq ((ak _ _ _ _).trans aO);have U:bB M (eR M (en M X.A X.R j c') j (c'+1)) j (c'+1)=1:=by rw[pf p.T hj I r.2.2];exact(nl p.T hj I).trans (ak _ _ _ _)
    rw[lv];show tI _ (c'+1) (aa X.S j 3 ((c':Int)+1) j 0) (bB M (eR M (en M X.A X.R j c') j (c'+1)) j (c'+1))<_;rw[U,bZ _ _ _ _ aO,s0];show 10*M.d j+3+8*(M.d j - (c'+1))+6<10*M.d j+3+8*(M.d j - c')+_;omega
  |pass c'=>
   rw[e] at hs B;obtain rfl:c'=c:=by have:=fq hs.2;omega
   have s0:=hs.1;have hd:=B.1;have wt:tI (M.d j) c' (X.S j 0) (bB M X.R j c')=6*M.d j+4*(M.d j - c')+rk (bB M X.R j c'):=by rw[s0];rfl
   rw[wt] at fin;rcases(p.So hj e ho).2 with⟨q, -⟩|⟨q,k⟩|⟨q,k⟩
   ·omega
   ·unfold iY;rw[ac aO,ac (by rw[rJ.2,q];omega)];obtain⟨b1,J,b3⟩:=fG.Uj (X:={X with A:=(dA M X.A X.R j c').1.A,R:=en M X.A X.R j c'}) k hj mo hd;exact fin _ b1 aO (.inr ⟨by omega,.inl b3⟩) (λu m=>by unfold es gZ;split<;>exact(aj _ _ _ _ m).trans (aj _ _ _ _ m))
   ·unfold iY;rw[ac aO,ad (by rw[rJ.2,q])];obtain⟨b1,J,b3⟩:=fG.UB (X:={X with A:=(dA M X.A X.R j c').1.A,R:=en M X.A X.R j c'}) k hj mo;exact fin _ b1 aO (.inr ⟨by omega,b3.symm⟩) (λu m=>by unfold kI;split;exact aj _ _ _ _ m;exact(aj _ _ _ _ m).trans (aj _ _ _ _ m))
  |out c'=>
   rw[e] at hs B;obtain rfl:c'=c:=by have:=fq hs.2;omega
   have s0:=hs.1;have wt:tI (M.d j) c' (X.S j 0) (bB M X.R j c')=6*c'+rk (bB M X.R j c'):=by rw[s0];rfl
   rw[wt] at fin;rcases(p.outs hj e ho).2 with⟨Y,C, -⟩|⟨q,k⟩
   ·omega
   ·unfold iY;rw[ac aO,ad (by rw[rJ.2,q])];obtain⟨b1,J,b3⟩:=fG.UB (X:={X with A:=(dA M X.A X.R j c').1.A,R:=en M X.A X.R j c'}) k hj mo;have Z:0<rk (bB M X.R j c'):=by rcases o with⟨a,_⟩|⟨a,_⟩;omega;exact am a K
    exact fin _ b1 aO (.inr ⟨by omega,b3.symm⟩) (λu m=>by unfold kI;split;exact aj _ _ _ _ m;exact(aj _ _ _ _ m).trans (aj _ _ _ _ m))
end
def gq(M:eD)(R:Nat->Nat->Nat->Int):Prop:=∀v i,R v i 0≠0->∃t l,t<M.n/\l<M.d t/\M.pl t l=v/\M.sl t l=i
def Pr(M:eD)(X:fB)(ph:Nat->HP)(u l:Nat):Prop:=(∃c,ph u= .Tf c/\(l<c/\bB M X.R u l=10\/l=c/\bB M X.R u l=5/\X.A.get (dE ⟨M.sz (M.pl u l),M.tl (M.pl u l)⟩ ((M.sl u l:Int)+1))=0))\/∃c,ph u= .out c/\(l<c/\bB M X.R u l=10\/l=c/\bB M X.R u l=13/\X.A.get (dT ⟨M.sz (M.pl u l),M.tl (M.pl u l)⟩ ((M.sl u l:Int)+1))=0)
section
variable{M:eD}{X:fB}{ph:Nat->HP}{u v i l c:Nat}
variable(hI:fG M X.A X.R ph)(ha:∀t,t<M.n->(ph t).at_ X.S t)(hq:∀t,t<M.n->X.S t 0=0\/dY M X t)
include hI ha hq
theorem nX(g:u<M.n)(hl:l<M.d u)(lo:jN M X.R u l):bB M X.R u l=0\/Pr M X ph u l:=by
 have a:=ha u g;have b:=hI.P u g;have q:=hq u g;unfold Pr;cases e:ph u with
 |rest=>
  rw[e] at b;cases l with
  |zero=>exact .inl b
  |succ l=>have:=lo 0 aO;have k:bB M X.R u 0=0:=b;omega
 |hold=>rw[e] at a;have j:X.S u 0=10:=a;unfold dY at q;omega
 |T3 c=>rw[e] at a;exact a.elim
 |down c=>rw[e] at a;exact a.elim
 |Tf c=>
  rw[e] at a b;have a1:=a.1;have q:dY M X u:=q.resolve_left aO;unfold dY at q;rw[fq a.2] at q;have b3:=b.2.2;have d:_\/_:=q.2;have f:X.R (M.pl u c) (M.sl u c) 0=bB M X.R u c:=rfl;rw[f] at d;refine .inr (.inl ⟨c,rfl,?_⟩);rcases Jd l c with h|h|h
  ·exact .inl ⟨h,b.2.1 l h⟩
  ·subst h;rcases d with d|d
   ·exact .inr ⟨rfl,d⟩
   ·omega
  ·have:=lo c h;omega
 |pass c=>
  rw[e] at a b;have a1:=a.1;have q:dY M X u:=q.resolve_left aO;unfold dY at q;rw[fq a.2] at q;have b3:=b.2.2;have d:_\/_:=q.2;have f:X.R (M.pl u c) (M.sl u c) 0=bB M X.R u c:=rfl;rw[f] at d;omega
 |out c=>
  rw[e] at a b;have a1:=a.1;have q:dY M X u:=q.resolve_left aO;unfold dY at q;rw[fq a.2] at q;have b3:=b.2.2.1;have d:_\/_:=q.2;have f:X.R (M.pl u c) (M.sl u c) 0=bB M X.R u c:=rfl;rw[f] at d;refine .inr (.inr ⟨c,rfl,?_⟩);rcases Jd l c with h|h|h
  ·exact .inl ⟨h,b.2.1 l h⟩
  ·subst h;rcases d with d|d
   ·omega
   ·exact .inr ⟨rfl,d⟩
  ·have:=lo c h;omega
theorem DM(G:gq M X.R):∀f t l,t<M.n->l<M.d t->41<=f+(M.d t - l)->bB M X.R t l≠0->∃u l',u<M.n/\l'<M.d u/\M.pl u l'=M.pl t l/\M.sl u l'=M.sl t l/\jN M X.R u l'
 | 0,t,l,ht,hl,K,_=>by have:=(hI.T.ok.d1 t ht).2;omega
 |f+1,t,0,ht,hl,_,_=>⟨t,0,ht,hl,rfl,rfl,λk N=>by omega⟩
 |f+1,t,m+1,ht,hl,K,J=>by
  have hv:=hI.T.ok.pl t m ht aO;have O:¬jq _ _ _:=λh=>J ((hI.J t m ht aO).1 h hl);obtain⟨Q,o,ri⟩:=hI.rg _ hv;have g:=hI.G.lo _ hv;have B:=hI.T.sz _ hv;have L:=hI.G.fit.1;have E:=hI.G.fit.2.1;have c:∃i,i<M.sz (M.pl t m)/\(X.R (M.pl t m) i 0=10\/X.R (M.pl t m) i 0=15\/X.R (M.pl t m) i 0=16\/X.R (M.pl t m) i 0=5/\0<(cv (M.tl (M.pl t m)) (M.sz (M.pl t m)) X.A).wt i):=FM λD=>O ⟨by
   by_cases d:∃j,j<M.sz (M.pl t m)/\6<=X.R (M.pl t m) j 0
   ·obtain⟨j,hj,S⟩:=d;have:=ri.pc hj;unfold oh at this;refine .inl ⟨j,hj,?_⟩;have n1:¬(X.R (M.pl t m) j 0=10\/X.R (M.pl t m) j 0=15\/X.R (M.pl t m) j 0=16):=λx=>D ⟨j,hj,by rcases x with x|x|x;exact .inl x;exact .inr (.inl x);exact .inr (.inr (.inl x))⟩;omega
   ·exact .inr λj hj=>Int.not_le.1 λx=>d ⟨j,hj,x⟩,λj hj h5=>Int.not_lt.1 λx=>D ⟨j,hj,.inr (.inr (.inr ⟨h5,x⟩))⟩⟩
  obtain⟨i,hi,P⟩:=c;have ne:X.R (M.pl t m) i 0≠0:=by omega
  obtain⟨u,l',F,p,ev,C⟩:=G _ _ ne;have up:=(hI.T.up t u m l' ht F aO p ev.symm).1;obtain⟨z,s,n,r,a,b,w⟩:=DM G f u l' F p aO (by unfold bB;rw[ev,C];exact ne);rw[ev] at a;rw[C] at b;have R:bB M X.R z s=X.R (M.pl t m) i 0:=by unfold bB;rw[a,b]
  have A:bB M X.R z s=10:=by
   rcases nX hI ha hq n r w with q|⟨c,_,⟨_,q⟩|⟨_,q,st⟩⟩|⟨c,_,⟨_,q⟩|⟨_,q,_⟩⟩
   ·omega
   ·exact q
   ·rw[a,b,Bp aO B hi] at st;have cw:(cv (M.tl (M.pl t m)) (M.sz (M.pl t m)) X.A).wt i=X.A.get ((M.tl (M.pl t m):Int)+2*i+2):=ad hi;omega
   ·exact q
   ·omega
  have y:=hI.T.up t z m s ht n aO r a.symm;obtain⟨H,I⟩:=y.2 1 aO aO;have:=y.1;exact⟨z,s+1,n,by omega,H.symm,I.symm,λk N=>by
   by_cases e:k=s
   ·subst e;exact .inl A
   ·exact w k aO⟩
theorem zt(h:gq M X.R)(b:X.R v i 0≠0):∃u l,u<M.n/\l<M.d u/\M.pl u l=v/\M.sl u l=i/\Pr M X ph u l:=by
 obtain⟨t,l,ht,hl,rfl,rfl⟩:=h _ _ b;obtain⟨u,l',g,a,d,f,lo⟩:=DM hI ha hq h 41 t l ht hl aO b;refine⟨u,l',g,a,d,f,(nX hI ha hq g a lo).resolve_left λe=>?_⟩;unfold bB at e;rw[d,f] at e;exact b e
theorem vY(b:gq M X.R)(a:X.R v i 0≠0):X.R v i 0=10\/X.R v i 0=5/\X.A.get (dE ⟨M.sz v,M.tl v⟩ ((i:Int)+1))=0\/X.R v i 0=13:=by
 obtain⟨u,l,d,hl,rfl,rfl,⟨c,_,⟨_,q⟩|⟨_,q⟩⟩|⟨c,_,⟨_,q⟩|⟨_,q,_⟩⟩⟩:=zt hI ha hq b a
 ·exact .inl q
 ·exact .inr (.inl q)
 ·exact .inl q
 ·exact .inr (.inr q)
theorem Ho(t:gq M X.R)(n:u<M.n)(k:c<M.d u)(e:bB M X.R u c=13)(s:X.A.get (dT ⟨M.sz (M.pl u c),M.tl (M.pl u c)⟩ ((M.sl u c:Int)+1))=0):False:=by
 have hv:=hI.T.ok.pl u c n k;have hi:=hI.T.ok.sl u c n k;obtain⟨Q,o,ri⟩:=hI.rg _ hv;have g:=hI.G.lo _ hv;have f:=hI.T.sz _ hv;have p:=hI.G.fit.1;have m:=hI.G.fit.2.1;have d:X.R (M.pl u c) (M.sl u c) 0=13:=e;have h:rv (X.R (M.pl u c)) (M.sl u c) 0=13:=by rw[sj,d];rfl
 obtain⟨⟨r,j⟩,ow⟩:=ri.mc.Rv _ (ri.mc.RG _ hi aO);rw[h] at ow;have w:Q≠[M.sl u c]:=by
  rcases ow with q|q|q
  ·omega
  ·exact q.2
  ·omega
 cases r with
 |nil=>exact w j
 |cons q r=>
  have ql:=ri.mc.ql;rw[j] at ql;have y:rv (X.R (M.pl u c)) q 0=yJ (X.R (M.pl u c) q 0):=rfl;have x:=pU (X.R (M.pl u c) q 0);rcases ql.1 with⟨a,_⟩|⟨a,b⟩
  ·have:=vY hI ha hq t (v:=M.pl u c) (i:=q) aO;omega
  ·rw[Bo aO f hi] at s;have:(cw (cv (M.tl (M.pl u c)) (M.sz (M.pl u c)) X.A)).nx (M.sl u c)=X.A.get ((M.tl (M.pl u c):Int)+2*(M.sl u c)+1):=ad hi;omega
theorem vZ(f:gq M X.R)(d:u<M.n)(e:ph u= .out c):False:=by
 have b:=hI.P u d;rw[e] at b;rcases nX hI ha hq d b.1 (o9 b.2.1) with h|⟨c',a,_⟩|⟨c',a,q⟩
 ·have:=b.2.2.1;omega
 ·rw[e] at a;cases a
 ·rw[e] at a;cases a;rcases q with⟨q,_⟩|⟨_,g,j⟩
  ·omega
  ·exact Ho hI ha hq f d b.1 g j
theorem zq(m:gq M X.R):∀f u c,u<M.n->ph u= .Tf c->M.d u - c<=f->False
 | 0,u,c,a,e,E=>by have b:=hI.P u a;rw[e] at b;have:=b.1;omega
 |f+1,u,c,a,e,E=>by
  have b:=hI.P u a;rw[e] at b;have k:c<M.d u:=b.1;have hv:=hI.T.ok.pl u c a k;have hi:=hI.T.ok.sl u c a k;have h5:bB M X.R u c=5:=by
   rcases nX hI ha hq a k (o9 b.2.1) with h|⟨c',j,q⟩|⟨c',j,q⟩
   ·have:=b.2.2;omega
   ·rw[e] at j;cases j;rcases q with⟨q,_⟩|⟨_,G,P⟩
    ·omega
    ·exact G
   ·rw[e] at j;cases j
  obtain⟨Q,o,ri⟩:=hI.rg _ hv;have g:=hI.G.lo _ hv;have w:=hI.T.sz _ hv;have F:=hI.G.fit.1;have A:=hI.G.fit.2.1;have s:X.R (M.pl u c) (M.sl u c) 0=5:=h5;have H:rv (X.R (M.pl u c)) (M.sl u c) 0=5:=by rw[sj,s];rfl
  have hm:=ri.mc.mem _ hi (.inr H);cases o with
  |none=>
   cases Q with
   |nil=>simp at hm
   |cons h r=>
    obtain⟨O,n⟩:=ri.mc.Tq rfl h r rfl;have B:=ri.mc.lt h aS;have J:rv (X.R (M.pl u c)) h 0=yJ (X.R (M.pl u c) h 0):=rfl;have I:=pU (X.R (M.pl u c) h 0);have cs:=vY hI ha hq m (v:=M.pl u c) (i:=h) aO;rw[Bp aO w B] at cs;have st:(cv (M.tl (M.pl u c)) (M.sz (M.pl u c)) X.A).wt h=X.A.get ((M.tl (M.pl u c):Int)+2*h+2):=ad B;have n:(if(cv (M.tl (M.pl u c)) (M.sz (M.pl u c)) X.A).wt h=0 then(1:Int) else 0)=0:=n;rw[st] at n
    split at n<;>omega
  |some x=>
   obtain⟨N,K⟩:=ri.mc.Tn;have J:rv (X.R (M.pl u c)) x 0=yJ (X.R (M.pl u c) x 0):=rfl;have I:=pU (X.R (M.pl u c) x 0);obtain⟨y,C,d,t,z,D,q⟩:=zt hI ha hq m (v:=M.pl u c) (i:=x) aO;have L:bB M X.R y C=X.R (M.pl u c) x 0:=by unfold bB;rw[z,D]
   have up:=(hI.T.up u y c C a d k t z.symm).1;rcases q with⟨c2,p,⟨q,_⟩|⟨_,q,_⟩⟩|⟨c2,p,_⟩
   ·exact zq m f y c2 d p aO
   ·omega
   ·exact vZ hI ha hq m d p
theorem DN(f:gq M X.R)(d:u<M.n):X.S u 0=0:=by
 rcases hq u d with q|q
 ·exact q
 have a:=ha u d;have b:=hI.P u d;cases e:ph u with
 |rest=>rw[e] at a;exact a
 |hold=>rw[e] at a;have j:X.S u 0=10:=a;unfold dY at q;omega
 |T3 c=>rw[e] at a;exact a.elim
 |down c=>rw[e] at a;exact a.elim
 |Tf c=>exact(zq hI ha hq f _ u c d e (ba _)).elim
 |pass c=>
  rw[e] at a b;unfold dY at q;rw[fq a.2] at q;have b3:=b.2.2;have h:_\/_:=q.2;have g:X.R (M.pl u c) (M.sl u c) 0=bB M X.R u c:=rfl;rw[g] at h;omega
 |out c=>exact(vZ hI ha hq f d e).elim
end
end Go.Proofs.YteijjhahgabalaaGreat
