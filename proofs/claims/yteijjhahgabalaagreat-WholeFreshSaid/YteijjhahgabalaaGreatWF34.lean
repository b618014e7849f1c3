/- A world of any of the thirteen kinds comes to rest; the law that a lock at rest is as good as new. -/
import Derived.Test.YteijjhahgabalaaGreatWF32
import Derived.Test.YteijjhahgabalaaGreatWF26
import Derived.Test.YteijjhahgabalaaGreatWF29
import Derived.Test.YteijjhahgabalaaGreatWF33
import Derived.Test.YteijjhahgabalaaGreatWF24
set_option maxRecDepth 100000
set_option maxHeartbeats 8000000
set_option linter.all false
namespace Go.Proofs.YteijjhahgabalaaGreat
open Go.RowKit
open Tryz
def MD(P T:List Int)(sv:Value)(s:Bool):Prop:=∃(p:LP)(s0:p.σ)(J:Nat->p.σ->Prop)(W:p.σ->Nat)(spin:p.σ->Int->Prop),jO P T sv p s0/\p.Live J W spin/\J 0 s0/\p.n=T.length/\s=p.shares
theorem vN{P T:List Int}(e:ea P T)(x0 x1 x2 x3:Int):MD P T (pX x0 x1 x2 x3) (decide (11<=1+x3%13)&&decide (1+x3%13<=13)):=by
 have h:1<=1+x0%5/\1+x0%5<=5:=by omega
 have hl:1<=1+x1%5/\1+x1%5<=5:=by omega
 have i:1<=1+x2/4%4/\1+x2/4%4<=4:=by omega
 have o:0<=x2%4/\x2%4<=3:=by omega
 have j:1<=1+x3%13/\1+x3%13<=13:=by omega
 unfold pX;generalize 1+x0%5=g at*;generalize 1+x1%5=l at*;generalize 1+x2/4%4=par at*;generalize x2%4=bud at*;generalize 1+x3%13=k at*;have f:1<=par/\par<=32:=by omega
 have d:0<=bud/\bud<=1000:=by omega
 by_cases h5:k<=5
 ·have m:(decide (11<=k)&&decide (k<=13))=false:=by simp;omega
  rw[m];exact⟨_,_,_,_,_,GX e ⟨j.1,h5⟩ f,(Np (ru e ⟨j.1,h5⟩ f) (by show par.toNat<=4;omega)).live,GZ e ⟨j.1,h5⟩ i,rfl,rfl⟩
 have q:k=6\/k=7\/k=8\/k=9\/k=10\/k=11\/k=12\/k=13:=by omega
 clear j h5;rcases q with rfl|rfl|rfl|rfl|rfl|rfl|rfl|rfl
 ·exact⟨_,_,_,_,_,zf e h hl f d,(Nh _).live,GG e h hl i d,rfl,rfl⟩
 ·obtain⟨a,b,c⟩:=Hi e d;exact⟨_,_,_,_,_,G3 e d,(NL b c).live,a,rfl,rfl⟩
 ·exact⟨_,_,_,_,_,zm e d,(NA _).live,G9 e o,rfl,rfl⟩
 ·exact⟨_,_,_,_,_,Ia e d,(MU _).live,GD e bud,by rw[show(xO (Eb P T bud)).n=(Eb P T bud).n from rfl,vG],rfl⟩
 ·exact⟨_,_,_,_,_,D6 e d,(N3 _ _ _ _).live,Ig e,rfl,rfl⟩
 ·exact⟨_,_,_,_,_,D8 e h hl f d,(N5 _).live,Is e h hl i d,rfl,rfl⟩
 ·exact⟨_,_,_,_,_,D9 e h hl f d,(Of _).live,IC e h hl i d,rfl,rfl⟩
 ·exact⟨_,_,_,_,_,Ea e h hl f d,(OW _).live,IY e h hl i d,rfl,rfl⟩
section
variable{w:World}{a b l t2:Value}{P T us:List Int}{x0 x1 x2 x3:Int}{Rt:List (Int×Int)}{p:LP}{s0:p.σ}
theorem ng(J:je P T 6->jO P T (pX x0 x1 x2 x3) p s0)
 (G:aZ w 0 a P)(H:aZ w 0 b T)(I:0<=x0/\x0<256)(h1:0<=x1/\x1<256)(h2:0<=x2/\x2<256)(h3:0<=x3/\x3<256)(hl:xJ w.heap.size w l Rt)(Q:xG w.heap.size w t2 us)(hs:Rt.length<=100->us.length<=20->¬je P T 6)
 (u:∀W,Calls prog 8 #[] W λe w'=>e= .returned true/\af [] W w'):
 Calls prog 3 #[.agg #[a,b],.agg #[.int .u8 x0,.int .u8 x1,.int .u8 x2,.int .u8 x3],.agg #[l,t2]] w λe w'=>e= .returned true/\Below w.heap.size w w':=by
 have x:=aH (λ(W:World) (z:af [] w W)=>zM (m:=6) W J (G.Rr z aS) (H.Rr z aS) I h1 h2 h3);have F:=aH (λ(W:World) (z:af [] w W)=>oI W (G.Rr z aS) (H.Rr z aS) 6);obtain⟨la,A,rfl, -, -, -, -⟩:=hl;obtain⟨B,C,rfl, -, -⟩:=Q;have O:decide ((100:Int)<Rt.length)=true/\decide (100<Rt.length)=true\/decide ((100:Int)<Rt.length)=false/\decide (100<Rt.length)=false/\(decide ((20:Int)<us.length)=true/\decide (20<us.length)=true\/decide ((20:Int)<us.length)=false/\decide (20<us.length)=false/\Hy (¬je P T 6)):=by
  by_cases c:100<Rt.length
  ·exact .inl ⟨aT,ef c⟩
  by_cases d:20<us.length
  ·exact .inr ⟨aB,dh c,.inl ⟨aT,ef d⟩⟩
  ·exact .inr ⟨aB,dh c,.inr ⟨aB,dh d,aH (hs aO aO)⟩⟩
 obtain⟨a1,f,rfl, -, -⟩:=G;obtain⟨a2,g,rfl, -, -⟩:=H;have v:=aH u;clear u hs J;have K:= @aX prog;have o:=((aq.new w #[.slice a1 P.length f,.slice a2 T.length g] 24).alloc (.cells #[.int .u8 x0,.int .u8 x1,.int .u8 x2,.int .u8 x3] 25)).alloc (.cells #[.slice la Rt.length A,.slice B us.length C] 29);have h:=(aq.new (w.alloc (.cells #[.slice a1 P.length f,.slice a2 T.length g] 24)) #[.int .u8 x0,.int .u8 x1,.int .u8 x2,.int .u8 x3] 25).alloc (.cells #[.slice la Rt.length A,.slice B us.length C] 29);have s:=aq.new ((w.alloc (.cells #[.slice a1 P.length f,.slice a2 T.length g] 24)).alloc (.cells #[.int .u8 x0,.int .u8 x1,.int .u8 x2,.int .u8 x3] 25)) #[.slice la Rt.length A,.slice B us.length C] 29;rw[bP] at h;rw[bP,bP] at s;have j:=aH o;have D:=aH h;have k:=aH s;have q:=aH ((((af.refl [] w).alloc (.cells #[.slice a1 P.length f,.slice a2 T.length g] 24)).alloc (.cells #[.int .u8 x0,.int .u8 x1,.int .u8 x2,.int .u8 x3] 25)).alloc (.cells #[.slice la Rt.length A,.slice B us.length C] 29));have c0:=o.cell (i:=0) rfl;have c1:=o.cell (i:=1) rfl;have R:=h.cell (i:=0) rfl;have k1:=h.cell (i:=1) rfl;have k2:=h.cell (i:=2) rfl;have k3:=h.cell (i:=3) rfl;clear I h1 h2 h3 o h s;go_enter func3,ntmps3;go_wp2_with fail;generalize((w.alloc (.cells #[.slice a1 P.length f,.slice a2 T.length g] 24)).alloc (.cells #[.int .u8 x0,.int .u8 x1,.int .u8 x2,.int .u8 x3] 25)).alloc (.cells #[.slice la Rt.length A,.slice B us.length C] 29)=S at*;refine(x.o _ q.o).mono ?_;rintro e w1 ⟨t,hm⟩;have n:=aH (q.o.trans t);have j:=aH (j.o.Rr t aS);have k:=aH (k.o.Rr t aS);obtain⟨M,rfl⟩:∃M,e= .returned (.pointer M):=by
  rcases hm with⟨-,rfl⟩|⟨-,_,_,_,_, -,rfl, -⟩
  ·exact⟨_,rfl⟩
  ·exact⟨_,rfl⟩
 clear t hm c0 c1 R k1 k2 k3 q x D;have c0:=j.o.cell (i:=0) rfl;have c1:=j.o.cell (i:=1) rfl;have U:=k.o.cell (i:=0) rfl;have V:=k.o.cell (i:=1) rfl;clear j k;rcases O with⟨d1,d2⟩|⟨d1,d2,⟨d3,d4⟩|⟨d3,d4,N⟩⟩;rotate_left 2;go_wp2_with fail;refine(F.o _ n.o).mono ?_;rintro e w2 ⟨r,rfl,L,t⟩;obtain rfl:r=false:=by cases r;rfl;exact am (L.1 rfl) N.o
 have n:=aH (n.o.trans t);clear t L;all_goals
  go_wp2_with fail;refine gF (v.o _) ?_;rintro X y;have E:=aH (n.o.trans y);clear y;go_wp2;go_ret;exact⟨rfl,E.o.below (ba _) aS⟩
def QC:LP:={σ:=Unit,n:=0,shares:=false,ar:=λ_=>AR.fresh 0,I:=λ_ _=>True,Sr:=λ_ _ _=>false,R3:=λs _ _=>s,RZ:=λ_ _=>false,Rz:=λs _=>s,RD:=λ_ _=>false,Ru:=λs _=>s,sp:=λ_ _ _=>0,Ta:=λ_ _=>0}
end
theorem mM{x:Int}(h:U8 x):0<=x/\x<256:=by unfold U8 at h;omega
theorem wholeFresh_walk(v0:Value)(m:List Int×List Int)(x0 x1 x2 x3:Int)(q:Value)(c:List (Int×Int)×List Int)(w:World)(r:Cl w v0 m)(g:U8 x0)(i:U8 x1)(j:U8 x2)(k:U8 x3)(h2:vw w q c):
 Calls prog 3 #[v0,.agg #[.int .u8 x0,.int .u8 x1,.int .u8 x2,.int .u8 x3],q] w λe w'=>e= .returned true/\Below w.heap.size w w':=by
 obtain⟨a,b,rfl,ha,d⟩:=r;obtain⟨l,u,rfl,hl,f⟩:=h2;by_cases hs:je m.1 m.2 6
 ·obtain⟨p,s0,J,W,spin,n,t,s,hn,o⟩:=vN hs.1 x0 x1 x2 x3;by_cases h1:c.1.length<=100
  ·by_cases h2:c.2.length<=20
   ·exact ye n t s hn (λW=>by rw[<-o];exact kg _ W) ha d (mM g) (mM i) (mM j) (mM k) hl h1 f h2 hs ⟨hs.1.size.2.2.1,hs.2⟩ nL
   ·exact ng (λ_=>n) ha d (mM g) (mM i) (mM j) (mM k) hl f (λ_ h=>am h h2) nL
  ·exact ng (λ_=>n) ha d (mM g) (mM i) (mM j) (mM k) hl f (λh=>am h h1) nL
 ·exact ng (p:=QC) (s0:=()) (λh=>am h hs) ha d (mM g) (mM i) (mM j) (mM k) hl f (λ_ _=>hs) nL
end Go.Proofs.YteijjhahgabalaaGreat
