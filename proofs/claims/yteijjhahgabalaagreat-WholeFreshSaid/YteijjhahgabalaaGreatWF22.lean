/- New of the flat kinds; the contract of flat.New, whatever the kind is. -/
import Derived.Test.YteijjhahgabalaaGreatWF19
import Derived.Test.YteijjhahgabalaaGreatWF21
import Derived.Test.YteijjhahgabalaaGreatWF20
set_option maxRecDepth 100000
set_option maxHeartbeats 8000000
set_option linter.all false
namespace Go.Proofs.YteijjhahgabalaaGreat
open Go.RowKit
open Tryz
def Dm:Nat->Nat->Int:=λi t=>if t=1 then(i:Int)+1 else 0
theorem II(n:Nat):dJ (n+1) Dm=dJ n Dm++[.int .i64 0,.int .i64 ((n:Int)+1),.int .i64 0,.int .i64 0]:=by
 unfold dJ;rw[show 4*(n+1)=4*n+1+1+1+1 by omega];simp only[xr,xu,List.map_cons,List.map_nil,Je,List.cons_append,List.nil_append];unfold Dm;rw[show 4*n/4=n by omega,show 4*n%4=0 by omega,show(4*n+1)/4=n by omega,show(4*n+1)%4=1 by omega,show(4*n+1+1)/4=n by omega,show(4*n+1+1)%4=2 by omega,show(4*n+1+1+1)/4=n by omega,show(4*n+1+1+1)%4=3 by omega];simp
theorem sS(w:World)(a b c d:Value)(T:TypeId):∀(j:Nat)(u:Value),[a,b,c,d][j]? =some u->(w.alloc (.cells #[a,b,c,d] T)).cell? ((⟨w.heap.size,0,none⟩:Addr).add j)=some u:=by
 intro j u g;have h:=aq.new w #[a,b,c,d] T;have e:(⟨w.heap.size,0,none⟩:Addr).add j=⟨w.heap.size,j,none⟩:=by
  unfold Addr.add
  split
  ·rename_i f;subst f;rfl
  ·simp
 rw[e];exact h.cell g
variable{w:World}{base size k:Nat}{e:TypeId}{v:Value}{xs:List Value}
theorem wQ(h:w.ownsRow base e size v k xs):∀j,v.ownBlock=some j->base<=j:=by
 rcases h.2 with⟨rfl,_⟩|⟨g,cap,cur,rfl,b,_⟩
 ·intro k a;simp[Value.ownBlock] at a
 ·intro k a;simp[Value.ownBlock] at a;omega
theorem dm(h:w.ownsRow base e size v k xs):∃a l c,v= .slice a l c:=by
 rcases h.2 with⟨rfl,_⟩|⟨g,cap,cur,rfl,b,_⟩
 ·exact⟨_,_,_,rfl⟩
 ·exact⟨_,_,_,rfl⟩
theorem yH{w':World}(h:w.ownsRow base e size v k xs){S:List Nat}(b:af S w w')(hs:∀k∈S,k<base):w'.ownsRow base e size v k xs:=by
 obtain⟨h1,h2⟩:=h;refine⟨h1,?_⟩;rcases h2 with h2|⟨g,cap,cur,hv,c,a,r⟩
 ·exact .inl h2
 ·refine .inr ⟨g,cap,cur,hv,c,?_,r⟩;rw[b.block g (I4.1 a).1 (λhm=>by have:=hs g hm;omega)];exact a
variable{A:AR}{m:Nat}{x:Int}
theorem pD(hm:A.taken+m<=A.ws.length)(a:x=m):A.RU x=0:=by
 subst a;unfold AR.RU;rw[ac aO,ac aO]
theorem qP(hm:A.taken+m<=A.ws.length)(a:x=m):A.take x={A with taken:=A.taken+m}:=by
 unfold AR.take;rw[ad (pD hm a)];subst a;rfl
def lg(K:FK):Nat->Nat->Int:=if K.k=5 then Dm elseλ_ _=>0
def fK(K:FK)(A:AR):AR:=if K.k=3 then AR.store {A with taken:=A.taken+K.size} (dH K.b K.p 0) 1 else if K.k=5 then AR.store {A with taken:=A.taken+K.size} K.b ((K.n:Int)+1) else{A with taken:=A.taken+K.size}
def pL(w:World)(ab wb:Nat)(A:AR)(K:FK)(N:Nat)(args:Array Value):Prop:=Calls prog N args w λe w'=>∃B:FB,e= .returned (.tuple #[some B.lb,(0:Int)])/\w.heap.size<=B.lb/\w.heap.size<=B.sb/\(B.ab=ab/\B.wb=wb/\B.xs=[])/\qV B K w' ⟨fK K A,lg K⟩/\af [ab,wb] w w'
section
variable{w:World}{ab wb:Nat}{A:AR}{K:FK}
theorem sG{x:Int}(hA:ax w ab wb A)(a:x=K.size)(hb:K.b=A.taken+1)(hr:A.taken+K.size<=A.ws.length):Calls prog 61 #[some ab,x] w λe w'=>e= .returned (.tuple #[K.b,(0:Int)])/\ax w' ab wb {A with taken:=A.taken+K.size}/\af [ab,wb] w w':=by
 have h:=fL hA x;have hn:A.takeN x=K.b:=by unfold AR.takeN;rw[ad (pD hr a),hb];omega
 rw[pD hr a,qP hr a,hn] at h;exact h
theorem Et(hA:ax w ab wb A)(hK:K.Ok)(hb:K.b<=4096){vs:Array Value}{T:TypeId}(hv:B2 ⟨w.heap.size+1,w.heap.size,ab,wb,K.n,[],[]⟩ K=vs.toList)(a:Hu K.k=T):qV ⟨w.heap.size+1,w.heap.size,ab,wb,K.n,[],[]⟩ K ((w.alloc (.cells (dJ K.n λ_ _=>0).toArray 138)).alloc (.cells vs T)) ⟨A,λ_ _=>0⟩:=by
 have g1:=(aq.new w (dJ K.n λ_ _=>0).toArray 138).alloc (.cells vs T);have g2:=aq.new (w.alloc (.cells (dJ K.n λ_ _=>0).toArray 138)) vs T;rw[bP,<-hv,<-a] at g2;rw[<-a] at g1⊢;have:=hK.p1;have:=hK.Tr;exact{box:=g2,row:=by simpa using g1,ar:=hA.Rr (S:=[]) ((aF.alloc _).alloc _) aS aS,xt:=by simp,Ry:=hK.Ry,b:=hb,p:=λ_=>by omega}
theorem Fd(hK:K.Ok):1<=K.size:=by have:=hK.p1;have:=hK.n1;unfold FK.size;(repeat' split)<;>omega
theorem nW{p:Prop}(h:p:=by
 have hn1:=hK.n1;have hn2:=hK.Ry;have hp1:=hK.p1;have hp2:=hK.Tr;have hab:=hA.box.lt;have hwb:=hA.row.lt;have hbb:K.b<=4096:=by have:=hA.room;have:=Fd hK;omega
 have d1:decide ((K.n:Int)<1)=false:=by simp;omega
 have d2:decide ((32:Int)<K.n)=false:=by simp;omega
 have d3:decide ((K.p:Int)<1)=false:=by simp;omega
 have d4:decide ((1024:Int)<K.p)=false:=by simp;omega
 have mk:=iE K.n aO;have hS:lg K=λ_ _=>0:=by unfold lg;rw[ac aO]
 have hA0:fK K A={A with taken:=A.taken+K.size}:=by unfold fK;rw[ac aO,ac aO]
 unfold pL;rw[hS,hA0];have HE:=aH (ae e (ae hK hbb));clear hA hr hb hS hA0
 go_in
 go_wp2_with(refine T1.o.mono ?_;rintro e w1 ⟨rfl,hA',hF⟩;have hsz:=hF.size;have HN:=aH (ae hA' hF);clear hA' hF)
 go_returns
 refine⟨⟨w1.heap.size+1,w1.heap.size,ab,wb,K.n,[],[]⟩,rfl,by show w.heap.size<=w1.heap.size+1;omega,hsz,⟨rfl,rfl,rfl⟩,Et HN.o.1 HE.o.2.1 HE.o.2.2 ?_ ?_,(HN.o.2.alloc _).alloc _⟩
 ·simp[B2,HE.o.1]
 ·simp[Hu,HE.o.1]):p:=h
theorem N2{i:Int}(h:1<=i/\i<=32){w:World}:Calls prog 62 #[i] w λe w'=>e= .returned true/\w=w':=by
 have d1:decide (1<=i)=true:=by simpa using h.1
 have d2:decide (i<=32)=true:=by simpa using h.2
 go_in
 go_wp2
 go_returns
 exact⟨rfl,rfl⟩
section
variable(hA:ax w ab wb A)(hK:K.Ok)(hb:K.b=A.taken+1)(hr:A.taken+K.size<=A.ws.length)
include hA hK hb hr
theorem NT(e:K.k=1):pL w ab wb A K 49 #[some ab,K.n,K.p]:=have T1:=aH (sG (x:=1) hA (by rw[IL e];rfl) hb hr);nW
theorem NQ(e:K.k=2):pL w ab wb A K 50 #[some ab,K.n]:=have T1:=aH (sG (x:=2) hA (by rw[Gd e];rfl) hb hr);nW
theorem MP(e:K.k=4):pL w ab wb A K 52 #[some ab,K.n]:=have T1:=aH (sG (x:=1+2*(K.n:Int)) hA (by rw[Fb e];omega) hb hr);nW
theorem N9(e:K.k=3):pL w ab wb A K 51 #[some ab,K.n,K.p]:=by
 have p:=aH (sG (x:=1+(K.p:Int)) hA (by rw[Bw e];omega) hb hr);have r:=hK.n1;have s:=hK.Ry;have t:=hK.p1;have u:=hK.Tr;have q:=hA.box.lt;have v:=hA.row.lt;have g:K.b<=4096:=by have:=hA.room;have:=Fd hK;omega
 have C:=iE K.n aO;have k:lg K=λ_ _=>0:=by unfold lg;rw[ac aO]
 have d:fK K A=AR.store {A with taken:=A.taken+K.size} (dH K.b K.p 0) 1:=by unfold fK;rw[ad e]
 unfold pL;rw[k,d];have l:= @aX prog;have b:=aH (ae e (ae hK g));clear hA hr hb k d
 go_in
 go_wp2_with(first
  |(go_at_call 62;refine(N2 aO).mono ?_;rintro e w' ⟨rfl,rfl⟩)
  |(go_at_call 61;refine p.o.mono ?_;rintro e w1 ⟨rfl,c,f⟩;have h:=f.size;have i:=aH (ae c f);clear c f))
 have j:=Et i.o.1 b.o.2.1 b.o.2.2 (vs:=#[some ab,K.b,K.p,.slice (some ⟨w1.heap.size,0,none⟩) K.n K.n]) (T:=150) (by simp[B2,b.o.1]) (by simp[Hu,b.o.1]);have m:=aH ((i.o.2.alloc (.cells (dJ K.n λ_ _=>0).toArray 138)).alloc (.cells #[some ab,K.b,K.p,.slice (some ⟨w1.heap.size,0,none⟩) K.n K.n] 150));generalize(w1.alloc (.cells (dJ K.n λ_ _=>0).toArray 138)).alloc (.cells #[some ab,K.b,K.p,.slice (some ⟨w1.heap.size,0,none⟩) K.n K.n] 150)=W at*;have a:=aH (show rD W (FB.z ⟨w1.heap.size+1,w1.heap.size,ab,wb,K.n,[],[]⟩) _ K W _ from⟨j,aF⟩);clear j;have n:=aH (@uJ W (FB.z ⟨w1.heap.size+1,w1.heap.size,ab,wb,K.n,[],[]⟩) ⟨w1.heap.size+1,w1.heap.size,ab,wb,K.n,[],[]⟩ K ⟨{A with taken:=A.taken+K.size},λ_ _=>0⟩ b.o.1 0)
 with_reducible refine lP n.o a ?_
 clear a;intro w2 a;go_wp2_with fail
 with_reducible refine lP ((rA (B:=⟨w1.heap.size+1,w1.heap.size,ab,wb,K.n,[],[]⟩) a.o).o.store _ _ _) a ?_
 clear a;intro w3 a;go_wp2
 go_returns
 exact⟨⟨w1.heap.size+1,w1.heap.size,ab,wb,K.n,[],[]⟩,rfl,by show w.heap.size<=w1.heap.size+1;omega,h,⟨rfl,rfl,rfl⟩,a.o.1,m.o.Rx a.o.2 λz y=>by simp at y⊢;omega⟩
theorem Nu(e:K.k=5):pL w ab wb A K 53 #[some ab,K.n]:=by
 have T1:=aH (sG (x:=(K.n:Int)+2) hA (by rw[Fc e];omega) hb hr);have hn1:=hK.n1;have P:=hK.Ry;have hp1:=hK.p1;have hp2:=hK.Tr;have hab:=hA.box.lt;have hwb:=hA.row.lt;have O:K.b<=4096:=by have:=hA.room;have:=Fd hK;omega
 have hS:lg K=Dm:=by unfold lg;rw[ad e]
 have t:fK K A=AR.store {A with taken:=A.taken+K.size} K.b ((K.n:Int)+1):=by unfold fK;rw[ac aO,ad e]
 unfold pL;rw[hS,t];have Y:=aH e;have HNE:=aH hA.ne;obtain⟨i0,hi,D,E,F⟩:=mN wT;have f:=aH (ae hi (ae D (ae E F)));clear hi D E F;have d1:decide ((K.n:Int)<1)=false:=by simp;omega
 have d2:decide ((32:Int)<K.n)=false:=by simp;omega
 clear hA hr hb hS t;go_enter func53,ntmps53;go_wp2_with fail;refine gF (T1.o) ?_;rintro w1 ⟨s,n⟩;have Q:=n.size;have HF:=aH n;have HA:=aH s;have hab1:ab<w1.heap.size:=by omega
 have hwb1:wb<w1.heap.size:=by omega
 clear s n;go_wp2_with fail;have g2:=aq.new w1 #[some ab,K.b,.slice none 0 0] 155;have G2:=aH g2;clear g2;go_loopw[31] (λT W=>∃k:Nat,T= .int .i64 k/\k<=K.n/\(∃v,aq W w1.heap.size [some ab,K.b,v] 155/\W.ownsRow (w1.heap.size+1) 138 4 v k (dJ k Dm))/\af [] w1 W) (λT _=>K.n - (intOf T).toNat)
 case atStart=>exact⟨0,rfl,fA _,⟨_,G2.o,sL _ _ _ _⟩,aF.alloc _⟩
 case round=>
  obtain⟨k,rfl,r,⟨v,q,Z⟩,n⟩:=hrel;have hszr:=n.size;have c0:=q.cell (i:=0) rfl;have c2:=q.cell (i:=2) rfl;have cz:=q.frozen;have X:=aH q;have G:=aH Z;have m:=aH n;have hblt:=q.lt;clear q Z n;by_cases hlt:k<K.n
  ·have l1:(k:Int)<K.n:=by omega
   have hb:∀j,v.ownBlock=some j->w1.heap.size+1<=j:=wQ G.o;have HOA:=aH (λo:Obj=>G.o.alloc o);have hsA:∀o:Obj,(wr.alloc o).heap.size=wr.heap.size+1:=bP wr;go_wp2_with(at_builtin;go_must(refine sK _ rfl _ _ 142 rfl (w1.heap.size+1) 138 i0 (.agg #[(0:Int),(0:Int),(0:Int),(0:Int)]) 4 32 underlying142 f.o.1 f.o.2.1 f.o.2.2.1 f.o.2.2.2 rfl aJ v k _ rfl (G.o.alloc _) ⟨wr.heap.size,0,none⟩ 1 1 [(0:Int),((k:Int)+1:Int),(0:Int),(0:Int)] rfl rfl (sS _ _ _ _ _ _) aC aM aO (by rw[bP];omega) ?_;intro v' w2 c a _;obtain⟨va,V,U,rfl⟩:=dm c;have l:=aH ((X.o.alloc (.cells #[(0:Int),((k:Int)+1:Int),(0:Int),(0:Int)] 138)).Rr (S:=v.ownBlock.toList) (af.SM a (λk r=>.inl (by simpa using r.symm ▸ rfl))) (λhm=>by have:=hb _ (by simpa using hm);omega));have z:af [] w1 w2:=(m.o.alloc _).Rx (S':=v.ownBlock.toList) (af.SM a (λk r=>.inl (by simpa using r.symm ▸ rfl))) (λk r=>.inr (by have:=hb k (by simpa using r);omega));have L:=aH c;have d:=aH z;have k2:=l.o.cell (i:=2) rfl;have kz:=l.o.frozen;have I:=aH (l.o.set 2 (.slice va V U));have M:=aH (yH L.o ((af.refl [w1.heap.size] w2).set ⟨w1.heap.size,2,none⟩ (.slice va V U) (.inl aS)) aS);have J:=aH (d.o.set ⟨w1.heap.size,2,none⟩ (.slice va V U) (.inr (ba _)));clear c a z hb))
   go_roundw
   case rel=>exact⟨k+1,by go_num,by omega,⟨_,I.o,by rw[II];exact M.o⟩,J.o⟩
   case measure=>simp[intOf];omega
  ·have l1:¬(k:Int)<K.n:=by omega
   obtain rfl:k=K.n:=by omega
   have u:=HA.o.Rr (S:=[]) m.o aS aS;have N:=aH (iN u K.b ((K.n:Int)+1));clear u;go_wp2_with fail;refine gF N.o ?_;rintro w3 ⟨y,B⟩;have H:=aH y;have d:=aH B;clear y B;go_wp2;go_ret2;obtain⟨h1,h2⟩:=G.o;rcases h2 with⟨_,h2⟩|⟨g,cap,cur,hv,hg,hh,hkc,hc1,hc2,R⟩
   ·omega
   ·subst hv;have C:aq wr g (dJ K.n Dm++cur.toList.drop (K.n*4)) 138:=by
     unfold aq;rw[<-R,List.take_append_drop];exact hh
    refine⟨⟨w1.heap.size,g,ab,wb,cap,cur.toList.drop (K.n*4),[]⟩,rfl,Q,by show w.heap.size<=g;omega,⟨rfl,rfl,rfl⟩,?_,HF.o.trans ((m.o.mono aS).trans d.o)⟩;exact{box:=by have:=X.o.Rr d.o aQ;simpa[B2,Hu,Y.o] using this,row:=C.Rr d.o aQ,ar:=H.o,xt:=by simp,Ry:=P,b:=O,p:=λh=>by have:=Y.o;omega}
end
end
section
variable{w:World}{ab wb:Nat}{A:AR}{K:FK}
theorem qV.flat{lb sb cp:Nat}{ex:List Value}{x:RX}{k:Int}{v:Value}(h:qV ⟨lb,sb,ab,wb,cp,ex,[]⟩ K w x)(kk:K.k=1\/K.k=2\/K.k=3\/K.k=4\/K.k=5)(e:(K.k:Int)=k/\Jr lb K.k=v):cZ (w.alloc (.cells #[k,v] 114)) w.heap.size lb sb ab wb x.A x.S K:=by
 have b:=h.same ((af.refl [] w).alloc (.cells #[k,v] 114));have hn:=aq.new w #[k,v] 114;rw[<-e.1,<-e.2] at hn b⊢;exact⟨kk,cp,ex,{b with xt:=λa ha=>by obtain rfl:=List.mem_singleton.1 ha;exact⟨hn,show 114∉_ by decide⟩}⟩
theorem Nq{p:Prop}(h:p:=by
 have HC:=aH HC;have HK:=aH (ae hK e);clear hK hA hb hr;rw[e];clear e
 go_in
 go_wp2_with(refine HC.o.mono ?_;rintro e w1 ⟨⟨lb,sb,_,_,cp,ex,_⟩,rfl,h1,h2,⟨rfl,rfl,rfl⟩,hL,hF⟩;have HL:=aH (ae h1 (ae h2 (ae hL hF)));clear h1 h2 hL hF)
 go_returns
 exact⟨_,rfl,HL.o.2.2.2.size,_,HL.o.1,_,HL.o.2.1,HL.o.2.2.1.flat HK.o.1.RS (by first|exact Pi HK.o.2|exact Qm HK.o.2|exact Qn HK.o.2|exact Qo HK.o.2|exact Qp HK.o.2),HL.o.2.2.2.alloc _⟩):p:=h
theorem uj(hA:ax w ab wb A)(K:FK)(hK:K.Ok)(hb:K.b=A.taken+1)(hr:A.taken+K.size<=A.ws.length):
 Calls prog 31 #[some ab,K.k,K.n,K.p] w λe w'=>∃fb lb sb,e= .returned (.tuple #[some fb,(0:Int)])/\w.heap.size<=fb/\w.heap.size<=lb/\w.heap.size<=sb/\
  cZ w' fb lb sb ab wb (fK K A) (lg K) K/\af [ab,wb] w w':=by
 rcases hK.RS with e|e|e|e|e
 ·have HC:=NT hA hK hb hr e;exact Nq
 ·have HC:=NQ hA hK hb hr e;exact Nq
 ·have HC:=N9 hA hK hb hr e;exact Nq
 ·have HC:=MP hA hK hb hr e;exact Nq
 ·have HC:=Nu hA hK hb hr e;exact Nq
end
section
variable{w:World}{ab wb:Nat}{A:AR}
def AZ(A:AR):Prop:=∀k:Nat,A.taken<=k->A.ws[k]?.getD 0=0
theorem yh{m:Nat}(a:AZ A)(hm:A.taken+m<=A.ws.length)(i:Int):AR.get {A with taken:=A.taken+m} i=A.get i:=by
 unfold AR.get;by_cases h1:A.has i=true
 ·have h2:=a6.1 h1;have h3:AR.has {A with taken:=A.taken+m} i=true:=a6.2 (by show 1<=i/\i<=((A.taken+m:Nat):Int);omega);rw[h1,h3]
 ·rw[ac h1];by_cases h3:AR.has {A with taken:=A.taken+m} i=true
  ·have h4:1<=i/\i<=((A.taken+m:Nat):Int):=a6.1 h3;rw[ad h3];exact a _ (by have:¬(1<=i/\i<=(A.taken:Int)):=λh=>h1 (a6.2 h);omega)
  ·rw[ac h3]
theorem kH{i:Int}(hi:(A.taken:Int)<i):A.get i=0:=by
 unfold AR.get;rw[ac (by rw[a6];omega)]
structure Aq(K:FK)(A B:AR):Prop where
 taken:B.taken=A.taken+K.size
 len:B.ws.length=A.ws.length
 ops:A.ops<=B.ops/\B.ops<=A.ops+1
 az:AZ B
 T4:∀i:Int,i<=A.taken->B.get i=A.get i
theorem nP{K:FK}(s:K.Ok)(M:K.b=A.taken+1)(C:A.taken+K.size<=A.ws.length)(F:AZ A)(u:A.Fit):Aq K A (fK K A)/\FI K (lg K) (fK K A):=by
 have I:=u.2.1;have B:=u.2.2;have n:AR.Fit {A with taken:=A.taken+K.size}:=⟨C,u.2.1,u.2.2⟩
 have o:∀i,AR.get {A with taken:=A.taken+K.size} i=A.get i:=λi=>yh F C i;have q:∀i:Int,(A.taken:Int)<i->AR.get {A with taken:=A.taken+K.size} i=0:=λi hi=>by rw[o];exact kH hi
 have grw:Aq K A {A with taken:=A.taken+K.size}:=⟨rfl,rfl,⟨pK _,by show A.ops<=A.ops+1;omega⟩,λk y=>F k (by have:A.taken+K.size<=k:=y;omega),λi _=>o i⟩
 have l:∀(x v:Int),(K.b:Int)<=x->x<(K.b:Int)+(K.size:Int)->Aq K A (AR.store {A with taken:=A.taken+K.size} x v)/\∀i,(AR.store {A with taken:=A.taken+K.size} x v).get i=if i=x then v else A.get i:=by
  intro x v h1 h2;have E:AR.has {A with taken:=A.taken+K.size} x=true:=a6.2 (by show 1<=x/\x<=((A.taken+K.size:Nat):Int);omega);obtain⟨o1,o2⟩:=cV (b:=K.b) (m:=K.size) (v:=v) n E h1 h2;have g:=λi=>bU (A:={A with taken:=A.taken+K.size}) (i:=x) (v:=v) (j:=i) C E;refine⟨⟨o1.taken,o1.len,⟨by rw[o2];show A.ops<=A.ops+1;omega,by rw[o2];exact pK _⟩,λk y=>?_,λi hi=>?_⟩,λi=>by rw[g,o]⟩
  ·unfold AR.store;rw[ad E];rw[o1.taken] at y;have H:A.taken+K.size<=k:=y;show(A.ws.set (x.toNat - 1) v)[k]?.getD 0=0;rw[s7,ac aO];exact F k aO
  ·rw[g,ac aO,o]
 have s4:∀i t,t≠1->Dm i t=0:=λi t h=>ac h;rcases s.RS with e|e|e|e|e
 ·have f:lg K=λ_ _=>0:=by unfold lg;rw[ac aO]
  have d:fK K A={A with taken:=A.taken+K.size}:=by unfold fK;rw[ac aO,ac aO]
  rw[f,d,GU e];exact⟨grw,⟨λ_ _=>.inl rfl,λ_ _ h=>by simp at h⟩⟩
 ·have f:lg K=λ_ _=>0:=by unfold lg;rw[ac aO]
  have d:fK K A={A with taken:=A.taken+K.size}:=by unfold fK;rw[ac aO,ac aO]
  rw[f,d,BY e];refine⟨grw,⟨by rw[q _ aO,q _ aO];exact TK.zero _,by rw[q _ aO];exact B.1⟩⟩
 ·have f:lg K=λ_ _=>0:=by unfold lg;rw[ac aO]
  have d:fK K A=AR.store {A with taken:=A.taken+K.size} (dH K.b K.p 0) 1:=by unfold fK;rw[ad e]
  rw[f,d,GV e];have D:=Bw e;have J:dH K.b K.p 0=(K.b:Int)+1:=by
   obtain⟨a1,_⟩:=pu (b:=K.b) (parts:=K.p) (t:=0) aO ⟨s.p1,s.Tr⟩ aO;rw[a1];simp
  rw[J];have L:=s.p1;obtain⟨g1,g2⟩:=l ((K.b:Int)+1) 1 aO aO;refine⟨g1,0,⟨?_,?_,λp h1 h2=>?_,?_⟩⟩
  ·rw[g2,ac aO,kH aO];exact TK.zero _
  ·rw[g2,ac aO,kH aO];have:=g1.ops;omega
  ·rw[g2];split
   ·omega
   ·rw[kH aO];omega
  ·rw[g2,ad aS];omega
 ·have f:lg K=λ_ _=>0:=by unfold lg;rw[ac aO]
  have d:fK K A={A with taken:=A.taken+K.size}:=by unfold fK;rw[ac aO,ac aO]
  rw[f,d,BZ e];exact⟨grw,[],none,MC.zero (q _ aO)⟩
 ·have f:lg K=Dm:=by unfold lg;rw[ad e]
  have d:fK K A=AR.store {A with taken:=A.taken+K.size} K.b ((K.n:Int)+1):=by unfold fK;rw[ac aO,ad e]
  rw[f,d,De e];have D:=Fc e;obtain⟨g1,g2⟩:=l (K.b:Int) ((K.n:Int)+1) aO aO;have h1:∀i,Dm i 1=(i:Int)+1:=λi=>ad rfl;have r:∀i,Dm i 0=0:=λi=>s4 i 0 aO;refine⟨g1,[],(K.n:Int)+1,{nd:=by simp,lt:=by simp,mem:=λj _=>by rw[r];simp,RC:=λj _=>.inl (r j),box:=λj hj=>by rw[h1];omega,fb:=by omega,inj:=λa c _ _ G=>by rw[h1,h1] at G;omega,T2:=λj hj=>by rw[h1];omega,chain:=?_,free:=?_,set:=λj _ z=>by rw[r] at z;omega,hold:=λj _ z=>by rw[r] at z;omega}⟩
  ·show AR.get _ _=_;rw[g2,ad rfl]
  ·rw[g2,ac aO,kH aO]
end
section
variable{w:World}{ab wb:Nat}{A:AR}
theorem vy(n:Nat):AZ (AR.fresh n):=by
 intro k _;show(List.replicate n (0:Int))[k]?.getD 0=0;rw[xo];split<;>rfl
theorem nc{K:FK}(h:K.Ok):1<=K.size/\K.size<=65:=by
 have:=h.n1;have:=h.Ry;have:=h.p1;have:=h.Tr;rcases h.RS with e|e|e|e|e
 ·rw[IL e];omega
 ·rw[Gd e];omega
 ·rw[Bw e];omega
 ·rw[Fb e];omega
 ·rw[Fc e];omega
end
structure lH(w:World)(lb sb bb ab wb tail first n:Nat)(bud:Int)(A:AR)(B:BK)(d:Int)(S:Nat->Nat->Int):Prop where
 box:aq w lb [some ab,tail,bud,some bb,d,.slice (some ⟨sb,0,none⟩) n n] 229
 row:aq w sb (dJ n S) 138
 bn:kA w bb ab first n B
 ar:ax w ab wb A
 ne:lb≠sb/\lb≠bb/\lb≠ab/\lb≠wb/\sb≠bb/\sb≠ab/\sb≠wb/\bb≠ab/\bb≠wb
 n1:1<=n
 Ry:n<=32
 tb:tail<=4096
 b0:0<=bud
 b1:bud<=1000
section
variable{w w':World}{lb sb bb ab wb tail first n:Nat}{bud:Int}{A A':AR}{B B':BK}{d:Int}{S:Nat->Nat->Int}
theorem lH.Rr(h:lH w lb sb bb ab wb tail first n bud A B d S){Z:List Nat}(b:af Z w w')(a:∀k∈[lb,sb,bb,ab,wb],k∉Z):lH w' lb sb bb ab wb tail first n bud A B d S:=
 {h with box:=h.box.Rr b (a _ aS),row:=h.row.Rr b (a _ aS),bn:=h.bn.Rr b (a _ aS),ar:=h.ar.Rr b (a _ aS) (a _ aS)}
theorem lH.Vp(h:lH w lb sb bb ab wb tail first n bud A B d S)(a:af [ab,wb] w w')(b:ax w' ab wb A'):lH w' lb sb bb ab wb tail first n bud A' B d S:=
 {h with box:=h.box.Rr a (by simp;have:=h.ne;omega),row:=h.row.Rr a (by simp;have:=h.ne;omega),bn:=h.bn.Rr a (by simp;have:=h.ne;omega),ar:=b}
theorem lH.US(h:lH w lb sb bb ab wb tail first n bud A B d S)(a:af [bb,ab,wb] w w')(c:kA w' bb ab first n B')(b:ax w' ab wb A'):lH w' lb sb bb ab wb tail first n bud A' B' d S:=
 {h with box:=h.box.Rr a (by simp;have:=h.ne;omega),row:=h.row.Rr a (by simp;have:=h.ne;omega),bn:=c,ar:=b}
variable{t:Nat}
theorem lH.put(h:lH w lb sb bb ab wb tail first n bud A B d S)(j:Nat)(ht:t<4)(v:Int):
 lH (w.setCell (sb,j*4+t) (.int .i64 v)) lb sb bb ab wb tail first n bud A B d (aa S j t v):=by
 have b:=h.row.set (j*4+t) (.int .i64 v);rw[i9 n S ht v] at b;have a:af [sb] w (w.setCell (sb,j*4+t) (.int .i64 v)):=aU;have hn:=h.ne;exact{h with box:=h.box.Rr a aQ,row:=b,bn:=h.bn.Rr a aQ,ar:=h.ar.Rr a aQ aQ}
theorem lH.Vj(h:lH w lb sb bb ab wb tail first n bud A B d S)(v:Int):lH (w.setCell (lb,4) (.int .i64 v)) lb sb bb ab wb tail first n bud A B v S:=by
 have a:af [lb] w (w.setCell (lb,4) (.int .i64 v)):=aU;have hn:=h.ne;exact{h with box:=h.box.set 4 (.int .i64 v),row:=h.row.Rr a aQ,bn:=h.bn.Rr a aQ,ar:=h.ar.Rr a aQ aQ}
variable{j:Nat}
theorem lH.p(h:lH w lb sb bb ab wb tail first n bud A B d S)(hj:j<n)(ht:t<4):w.cell? (sb,j*4+t)=some (.int .i64 (S j t)):=h.row.cell (a9 n S hj ht)
theorem lH.p0(h:lH w lb sb bb ab wb tail first n bud A B d S)(hj:j<n):w.cell? (sb,j*4)=some (.int .i64 (S j 0)):=h.row.cell (a9 n S (t:=0) hj aO)
def dD(tail:Nat)(y:Int):Int:=wrap64 ((tail:Int)+wrap64 (2*y))
def i4(tail:Nat)(y:Int):Int:=wrap64 (wrap64 ((tail:Int)+wrap64 (2*y))+1)
end
def Bg(g a:Int):Int:=if g=0 then(if a=0 then 19 else 21) else if a=0 then 15 else 14
structure MS where
 A:AR
 B:BK
 d:Int
 S:Nat->Nat->Int
def KN(tail first n:Nat)(bud:Int)(m:MS)(j:Nat):MS×Int:=(⟨m.A.store (dD tail ((j:Int)+1)) 0,m.B,m.d,m.S⟩,2)
def KO(tail first n:Nat)(bud:Int)(m:MS)(j:Nat):MS×Int:=(⟨m.A.store (i4 tail ((j:Int)+1)) 1,m.B,m.d,m.S⟩,3)
def Ed(tail first n:Nat)(bud:Int)(m:MS)(j:Nat):MS×Int:=(if m.A.get tail=0 then(⟨m.A.swap tail ((j:Int)+1),m.B,m.d,aa m.S j 1 (m.A.get tail)⟩,10) else(⟨m.A.swap tail ((j:Int)+1),m.B,m.d,aa m.S j 1 (m.A.get tail)⟩,4))
def KP(tail first n:Nat)(bud:Int)(m:MS)(j:Nat):MS×Int:=(⟨m.A.store (dD tail (m.S j 1)) ((j:Int)+1),m.B,m.d,m.S⟩,5)
def Ee(tail first n:Nat)(bud:Int)(m:MS)(j:Nat):MS×Int:=(if m.A.get (i4 tail ((j:Int)+1))=0 then(⟨m.A.load (i4 tail ((j:Int)+1)),m.B,m.d,m.S⟩,10) else(⟨m.A.load (i4 tail ((j:Int)+1)),m.B,m.d,m.S⟩,5))
def zy(tail first n:Nat)(bud:Int)(m:MS)(j:Nat):MS×Int:=(⟨m.A.add (tail+1) 1,m.B,m.d,aa m.S j 3 (m.A.RH (tail+1) 1)⟩,12)
def wi(tail first n:Nat)(bud:Int)(m:MS)(j:Nat):MS×Int:=(if¬m.A.get (dD tail ((j:Int)+1))=0/\¬(m.S j 3).tmod (bud+1)=0 then(⟨m.A.load (dD tail ((j:Int)+1)),m.B,m.d,aa m.S j 1 (m.A.get (dD tail ((j:Int)+1)))⟩,21) else(⟨m.A.load (dD tail ((j:Int)+1)),iT m.B,m.d,aa m.S j 1 (m.A.get (dD tail ((j:Int)+1)))⟩,13))
def wj(tail first n:Nat)(bud:Int)(m:MS)(j:Nat):MS×Int:=(if cU first m.A m.B=true then(⟨ca first m.A m.B,b7 first m.A m.B,m.d,aa m.S j 2 (b7 first m.A m.B).Su⟩,Bg (b7 first m.A m.B).Su (m.S j 1)) else(⟨ca first m.A m.B,b7 first m.A m.B,m.d,m.S⟩,13))
def zA(tail first n:Nat)(bud:Int)(m:MS)(j:Nat):MS×Int:=(⟨m.A.store (dD tail (m.S j 2)) (m.S j 1),m.B,m.d,m.S⟩,18)
def zB(tail first n:Nat)(bud:Int)(m:MS)(j:Nat):MS×Int:=(⟨m.A.store (dD tail (m.S j 2)) 0,m.B,m.d,m.S⟩,16)
def wk(tail first n:Nat)(bud:Int)(m:MS)(j:Nat):MS×Int:=(if m.A.RE tail ((j:Int)+1)=true then(⟨m.A.Sd tail ((j:Int)+1) (m.S j 2),m.B,m.d,m.S⟩,18) else(⟨m.A.Sd tail ((j:Int)+1) (m.S j 2),m.B,m.d,m.S⟩,17))
def wl(tail first n:Nat)(bud:Int)(m:MS)(j:Nat):MS×Int:=(if m.A.get (dD tail ((j:Int)+1))=0 then(⟨m.A.load (dD tail ((j:Int)+1)),m.B,m.d,aa m.S j 1 (m.A.get (dD tail ((j:Int)+1)))⟩,17) else(⟨m.A.load (dD tail ((j:Int)+1)),m.B,m.d,aa m.S j 1 (m.A.get (dD tail ((j:Int)+1)))⟩,14))
def zC(tail first n:Nat)(bud:Int)(m:MS)(j:Nat):MS×Int:=(⟨m.A.store (i4 tail (m.S j 2)) 0,m.B,m.d,m.S⟩,0)
def wm(tail first n:Nat)(bud:Int)(m:MS)(j:Nat):MS×Int:=(if m.A.RE tail ((j:Int)+1)=true then(⟨m.A.Sd tail ((j:Int)+1) 0,m.B,m.d,m.S⟩,0) else(⟨m.A.Sd tail ((j:Int)+1) 0,m.B,m.d,m.S⟩,20))
def wn(tail first n:Nat)(bud:Int)(m:MS)(j:Nat):MS×Int:=(if m.A.get (dD tail ((j:Int)+1))=0 then(⟨m.A.load (dD tail ((j:Int)+1)),m.B,m.d,aa m.S j 1 (m.A.get (dD tail ((j:Int)+1)))⟩,20) else(⟨m.A.load (dD tail ((j:Int)+1)),m.B,m.d,aa m.S j 1 (m.A.get (dD tail ((j:Int)+1)))⟩,21))
def wq(tail first n:Nat)(bud:Int)(m:MS)(j:Nat):MS×Int:=(if m.A.get (dD tail (m.S j 1))=0 then(⟨m.A.load (dD tail (m.S j 1)),m.B,0,m.S⟩,24) else(⟨m.A.load (dD tail (m.S j 1)),lf n m.B (m.S j 1),m.A.get (dD tail (m.S j 1)),m.S⟩,22))
def wu(tail first n:Nat)(bud:Int)(m:MS)(j:Nat):MS×Int:=(if cU first m.A m.B=true then(⟨ca first m.A m.B,b7 first m.A m.B,m.d,m.S⟩,23) else(⟨ca first m.A m.B,b7 first m.A m.B,m.d,m.S⟩,22))
def zD(tail first n:Nat)(bud:Int)(m:MS)(j:Nat):MS×Int:=(⟨m.A.store (i4 tail m.d) 0,m.B,m.d,m.S⟩,0)
def zE(tail first n:Nat)(bud:Int)(m:MS)(j:Nat):MS×Int:=(⟨m.A.store (i4 tail (m.S j 1)) 0,m.B,m.d,m.S⟩,0)
def fD(tail first n:Nat)(bud:Int)(m:MS)(j:Nat):MS×Int:=
 if m.S j 0=1 then KN tail first n bud m j else
 if m.S j 0=2 then KO tail first n bud m j else
 if m.S j 0=3 then Ed tail first n bud m j else
 if m.S j 0=4 then KP tail first n bud m j else
 if m.S j 0=5 then Ee tail first n bud m j else
 if m.S j 0=11 then zy tail first n bud m j else
 if m.S j 0=12 then wi tail first n bud m j else
 if m.S j 0=13 then wj tail first n bud m j else
 if m.S j 0=14 then zA tail first n bud m j else
 if m.S j 0=15 then zB tail first n bud m j else
 if m.S j 0=16 then wk tail first n bud m j else
 if m.S j 0=17 then wl tail first n bud m j else
 if m.S j 0=18 then zC tail first n bud m j else
 if m.S j 0=19 then wm tail first n bud m j else
 if m.S j 0=20 then wn tail first n bud m j else
 if m.S j 0=21 then wq tail first n bud m j else
 if m.S j 0=22 then wu tail first n bud m j else
 if m.S j 0=23 then zD tail first n bud m j else
 if m.S j 0=24 then zE tail first n bud m j else
 (m,m.S j 0)
def RK(tail first n:Nat)(bud:Int)(m:MS)(j:Nat):MS:={(fD tail first n bud m j).1 with S:=aa (fD tail first n bud m j).1.S j 0 (fD tail first n bud m j).2}
def gd(pc:Int):Prop:=(0<=pc/\pc<=5)\/(10<=pc/\pc<=24)
def nr(tail first n:Nat)(bud:Int)(m:MS)(j:Nat):Bool:= !(m.S j 0==0)&& !(m.S j 0==10)&&((fD tail first n bud m j).2==0||(fD tail first n bud m j).2==10)
theorem sx(S:Nat->Nat->Int)(j t:Nat):aa S j t (S j t)=S:=by
 funext a b
 unfold aa
 split
 ·rename_i h;rw[h.1,h.2]
 ·rfl
def JO(w:World)(lb sb bb ab wb tail first n:Nat)(bud:Int)(m:MS):Prop:=lH w lb sb bb ab wb tail first n bud m.A m.B m.d m.S
theorem E9(a b c d:Int)(W:World):(Instr.field 138 (.agg #[a,b,c,d]) 0).run prog W= .ok (.int .i64 a) W:=by kernel_rfl
section
variable{w0 w w':World}{lb sb bb ab wb tail first n:Nat}{bud:Int}{m:MS}
section
variable{A:AR}{B:BK}{d:Int}{S:Nat->Nat->Int}
theorem uC(h:lH w lb sb bb ab wb tail first n bud A B d S):Calls prog 308 #[some lb] w λe w'=>e= .returned n/\w=w':=by
 have a:=h.box.cell (i:=5) rfl;clear h;go_enter func308,ntmps308;go_wp2;go_ret;exact⟨rfl,rfl⟩
theorem tP(h:lH w lb sb bb ab wb tail first n bud A B d S)(i:Int):Calls prog 306 #[some lb,i] w λe w'=>e= .returned (mB n S i)/\af [] w w':=by
 have l:=aH (λ(W:World) (b:af [] w W)=>uC (h.Rr b aS));cases hi:bC n i with
 |false=>
  have f:mB n S i= .agg #[(0:Int),(0:Int),(0:Int),(0:Int)]:=by unfold mB;rw[hi];rfl
  rw[f];by_cases a:i<0
  ·have d1:decide (i<0)=true:=by simpa using a
   clear h f hi;go_enter func306,ntmps306;go_wp2_with fail;refine eO (v:=.agg #[(0:Int),(0:Int),(0:Int),(0:Int)]) (by simp[results,results306,go_sem]) rfl ⟨rfl,?_⟩;repeat (first|exact aF|exact aF.alloc _|refine af.set ?_ _ _ (.inr (ba _)))
  ·have d1:decide (i<0)=false:=by simpa using a
   have d2:decide ((n:Int)<=i)=true:=by unfold bC at hi;simp at hi;simp;omega
   clear h f hi;go_enter func306,ntmps306;go_wp2_with fail;refine gF (l.o _ (aF.alloc _)) ?_;rintro w' rfl;go_wp2_with fail;refine eO (v:=.agg #[(0:Int),(0:Int),(0:Int),(0:Int)]) (by simp[results,results306,go_sem]) rfl ⟨rfl,?_⟩;repeat (first|exact aF|exact aF.alloc _|refine af.set ?_ _ _ (.inr (ba _)))
 |true=>
  have g:0<=i/\i<(n:Int):=by unfold bC at hi;simpa using hi
  obtain⟨j,rfl⟩:=ix g.1;have hj:j<n:=by omega
  have f:mB n S j= .agg #[(S j 0:Int),(S j 1:Int),(S j 2:Int),(S j 3:Int)]:=by unfold mB;rw[hi];rfl
  rw[f];have d1:decide ((j:Int)<0)=false:=by simp
  have d2:decide ((n:Int)<=j)=false:=by simp;omega
  have d3:decide (n<=j)=false:=by simp;omega
  have l1:(j:Int)<n:=by omega
  have k:∀c,af [] w c->c.cell? (sb,j*4)=some (.int .i64 (S j 0))/\c.cell? (sb,j*4+1)=some (.int .i64 (S j 1))/\c.cell? (sb,j*4+2)=some (.int .i64 (S j 2))/\c.cell? (sb,j*4+3)=some (.int .i64 (S j 3))/\c.cell? (lb,5)=some (.slice (some ⟨sb,0,none⟩) n n):=λc b=>
   ⟨(h.Rr b aS).p0 hj,(h.Rr b aS).p hj aO,(h.Rr b aS).p hj aO,(h.Rr b aS).p hj aO,(h.Rr b aS).box.cell (i:=5) rfl⟩
  have o:=aH k;clear h f hi k g;go_enter func306,ntmps306;go_wp2_with fail;refine gF (l.o _ (aF.alloc _)) ?_;rintro w' rfl;obtain⟨c0,c1,c2,c3,q⟩:=o.o _ ((af.refl [] w).alloc (.cells #[(0:Int),(0:Int),(0:Int),(0:Int)] 138));go_wp2_with fail;refine eO (v:=.agg #[(S j 0:Int),(S j 1:Int),(S j 2:Int),(S j 3:Int)]) (by simp[results,results306,go_sem]) rfl ⟨rfl,?_⟩;repeat (first|exact aF|exact aF.alloc _|refine af.set ?_ _ _ (.inr (ba _)))
end
def mD(w0:World)(Z:List Nat)(lb sb bb ab wb tail first n:Nat)(bud:Int)(w:World)(m:MS):Prop:=JO w lb sb bb ab wb tail first n bud m/\af Z w0 w
variable{Z:List Nat}{j:Nat}
theorem zG(h:m.S j 0=1):fD tail first n bud m j=KN tail first n bud m j:=by simp[fD,h]
theorem zH(h:m.S j 0=2):fD tail first n bud m j=KO tail first n bud m j:=by simp[fD,h]
theorem zI(h:m.S j 0=3):fD tail first n bud m j=Ed tail first n bud m j:=by simp[fD,h]
theorem zJ(h:m.S j 0=4):fD tail first n bud m j=KP tail first n bud m j:=by simp[fD,h]
theorem ww(h:m.S j 0=5):fD tail first n bud m j=Ee tail first n bud m j:=by simp[fD,h]
theorem yo(h:m.S j 0=11):fD tail first n bud m j=zy tail first n bud m j:=by simp[fD,h]
theorem yp(h:m.S j 0=12):fD tail first n bud m j=wi tail first n bud m j:=by simp[fD,h]
theorem yq(h:m.S j 0=13):fD tail first n bud m j=wj tail first n bud m j:=by simp[fD,h]
theorem yr(h:m.S j 0=14):fD tail first n bud m j=zA tail first n bud m j:=by simp[fD,h]
theorem ys(h:m.S j 0=15):fD tail first n bud m j=zB tail first n bud m j:=by simp[fD,h]
theorem yt(h:m.S j 0=16):fD tail first n bud m j=wk tail first n bud m j:=by simp[fD,h]
theorem uA(h:m.S j 0=17):fD tail first n bud m j=wl tail first n bud m j:=by simp[fD,h]
theorem yu(h:m.S j 0=18):fD tail first n bud m j=zC tail first n bud m j:=by simp[fD,h]
theorem yv(h:m.S j 0=19):fD tail first n bud m j=wm tail first n bud m j:=by simp[fD,h]
theorem uB(h:m.S j 0=20):fD tail first n bud m j=wn tail first n bud m j:=by simp[fD,h]
theorem yw(h:m.S j 0=21):fD tail first n bud m j=wq tail first n bud m j:=by simp[fD,h]
theorem yx(h:m.S j 0=22):fD tail first n bud m j=wu tail first n bud m j:=by simp[fD,h]
theorem yz(h:m.S j 0=23):fD tail first n bud m j=zD tail first n bud m j:=by simp[fD,h]
theorem yA(h:m.S j 0=24):fD tail first n bud m j=zE tail first n bud m j:=by simp[fD,h]
theorem mD.drew(h:mD w0 Z lb sb bb ab wb tail first n bud w m):mD w0 Z lb sb bb ab wb tail first n bud w.drew m:=⟨lH.Rr h.1 (af.refl [] _).Rs aS,h.2.Rs⟩
theorem mD.al(h:mD w0 Z lb sb bb ab wb tail first n bud w m)(o:Obj):mD w0 Z lb sb bb ab wb tail first n bud (w.alloc o) m:=⟨lH.Rr h.1 ((af.refl [] _).alloc _) aS,h.2.alloc _⟩
abbrev Qv(lb sb bb ab tail n:Nat)(bud:Int)(w:World):Prop:=w.cell? (lb,0)=some (.pointer (some ⟨ab,0,none⟩))/\w.cell? (lb,1)=some (.int .i64 tail)/\w.cell? (lb,2)=some (.int .i64 bud)/\w.cell? (lb,3)=some (.pointer (some ⟨bb,0,none⟩))/\w.cell? (lb,5)=some (.slice (some ⟨sb,0,none⟩) n n)/\(∀i,w.frozen? ⟨lb,i,none⟩=false)/\(∀i,w.frozen? ⟨sb,i,none⟩=false)/\tail<=4096/\0<=bud/\bud<=1000/\n<=32
theorem mK(h:mD w0 Z lb sb bb ab wb tail first n bud w m):Qv lb sb bb ab tail n bud w:=⟨h.1.box.cell (i:=0) rfl,h.1.box.cell (i:=1) rfl,h.1.box.cell (i:=2) rfl,h.1.box.cell (i:=3) rfl,h.1.box.cell (i:=5) rfl,h.1.box.frozen,h.1.row.frozen,h.1.tb,h.1.b0,h.1.b1,h.1.Ry⟩
def mF(j:Nat)(m:MS)(b:Nat):Int:=if b=4 then m.d else m.S j b
theorem mP(h:mD w0 [lb,sb,bb,ab,wb] lb sb bb ab wb tail first n bud w m)(j:Nat){t:Nat}(ht:t<4)(v:Int):mD w0 [lb,sb,bb,ab,wb] lb sb bb ab wb tail first n bud (w.setCell (sb,j*4+t) (.int .i64 v)) {m with S:=aa m.S j t v}:=⟨lH.put h.1 j ht v,h.2.set _ _ (.inl aS)⟩
theorem mI(h:mD w0 [lb,sb,bb,ab,wb] lb sb bb ab wb tail first n bud w m)(hj:j<n):Hy (∀{w m},mD w0 [lb,sb,bb,ab,wb] lb sb bb ab wb tail first n bud w m->Qv lb sb bb ab tail n bud w/\(j:Int)<n/\¬n<=j/\w.cell? (lb,4)=some (.int .i64 m.d)/\w.cell? (sb,j*4)=some (.int .i64 (m.S j 0))/\w.cell? (sb,j*4+1)=some (.int .i64 (m.S j 1))/\w.cell? (sb,j*4+2)=some (.int .i64 (m.S j 2))/\w.cell? (sb,j*4+3)=some (.int .i64 (m.S j 3)))/\
 Hy (∀{w m},mD w0 [lb,sb,bb,ab,wb] lb sb bb ab wb tail first n bud w m->mD w0 [lb,sb,bb,ab,wb] lb sb bb ab wb tail first n bud w.drew m)/\
 Hy (∀{w m},mD w0 [lb,sb,bb,ab,wb] lb sb bb ab wb tail first n bud w m->∀o,mD w0 [lb,sb,bb,ab,wb] lb sb bb ab wb tail first n bud (w.alloc o) m)/\
 Hy (xF (mD w0 [lb,sb,bb,ab,wb] lb sb bb ab wb tail first n bud) ab wb MS.A (λm A=>{m with A:=A}))/\
 Hy (∀{w m},mD w0 [lb,sb,bb,ab,wb] lb sb bb ab wb tail first n bud w m->∀v,mD w0 [lb,sb,bb,ab,wb] lb sb bb ab wb tail first n bud (w.setCell (sb,j*4) (.int .i64 v)) {m with S:=aa m.S j 0 v})/\
 Hy (∀{w m},mD w0 [lb,sb,bb,ab,wb] lb sb bb ab wb tail first n bud w m->∀v,mD w0 [lb,sb,bb,ab,wb] lb sb bb ab wb tail first n bud (w.setCell (sb,j*4+1) (.int .i64 v)) {m with S:=aa m.S j 1 v})/\
 Hy (∀{w m},mD w0 [lb,sb,bb,ab,wb] lb sb bb ab wb tail first n bud w m->∀v,mD w0 [lb,sb,bb,ab,wb] lb sb bb ab wb tail first n bud (w.setCell (sb,j*4+2) (.int .i64 v)) {m with S:=aa m.S j 2 v})/\
 Hy (∀{w m},mD w0 [lb,sb,bb,ab,wb] lb sb bb ab wb tail first n bud w m->∀v,mD w0 [lb,sb,bb,ab,wb] lb sb bb ab wb tail first n bud (w.setCell (sb,j*4+3) (.int .i64 v)) {m with S:=aa m.S j 3 v})/\
 Hy (∀{w m},mD w0 [lb,sb,bb,ab,wb] lb sb bb ab wb tail first n bud w m->∀v,mD w0 [lb,sb,bb,ab,wb] lb sb bb ab wb tail first n bud (w.setCell (lb,4) (.int .i64 v)) {m with d:=v})/\
 Hy (∀{t}{w:World}{m},SD (mD w0 [lb,sb,bb,ab,wb] lb sb bb ab wb tail first n bud) (fR (mF j) t m) w->Qv lb sb bb ab tail n bud w/\(t≠99->(4≠t->w.cell? (lb,4)=some (.int .i64 m.d))/\(0≠t->w.cell? (sb,j*4)=some (.int .i64 (m.S j 0)))/\(1≠t->w.cell? (sb,j*4+1)=some (.int .i64 (m.S j 1)))/\(2≠t->w.cell? (sb,j*4+2)=some (.int .i64 (m.S j 2)))/\(3≠t->w.cell? (sb,j*4+3)=some (.int .i64 (m.S j 3)))))/\
 Hy (∀{x y b},y.d=x.d->y.S=x.S->mF j y b=mF j x b)/\
 Hy (∀{t b v}{x y:MS},y.d=x.d->y.S=aa x.S j t v->b≠t->mF j y b=mF j x b)/\
 Hy (∀{b}{x y:MS},y.S=x.S->b≠4->mF j y b=mF j x b):=by
 have cs:∀{w m},mD w0 [lb,sb,bb,ab,wb] lb sb bb ab wb tail first n bud w m->∀t,t<4->w.cell? ⟨sb,j*4+t,none⟩=some (.int .i64 (m.S j t)):=λh t ht=>h.1.p hj ht;refine⟨λh=>⟨mK h,by omega,by omega,h.1.box.cell (i:=4) rfl,cs h 0 aO,cs h 1 aO,cs h 2 aO,cs h 3 aO⟩,mD.drew,mD.al,⟨λh=>h.1.ar,λh k l=>⟨lH.Vp h.1 k l,h.2.trans (k.mono aS)⟩⟩,λh=>mP h j (t:=0) aO,λh=>mP h j aO,λh=>mP h j aO,λh=>mP h j aO,λh v=>⟨lH.Vj h.1 v,h.2.set _ _ (.inl aS)⟩,λ{t w m} ⟨x,g,e⟩=>⟨mK g,λht=>?_⟩,λa c=>by unfold mF;rw[a,c],λa c h=>by unfold mF;rw[a,c];simp[dK,h],λa h=>by unfold mF;rw[a,ac h,ac h]⟩;have e:=e.resolve_left ht;have f:∀b,b<4->b≠t->w.cell? ⟨sb,j*4+b,none⟩=some (.int .i64 (m.S j b)):=λb p h=>by have:=e b h;unfold mF at this;rw[ac aO,ac aO] at this;rw[<-this];exact cs g b p
 exact⟨λh=>by have:=e 4 h;unfold mF at this;rw[ad rfl,ad rfl] at this;rw[<-this];exact g.1.box.cell (i:=4) rfl,f 0 aO,f 1 aO,f 2 aO,f 3 aO⟩
theorem QA{p:Prop}(h:p:=by
 intro w HS;have C:=mK HS;replace HS:=aH HS
 go_in
 go_wp2
 go_returns
 exact⟨rfl,HS.o⟩):p:=h
theorem mNx(y:Int):Ct (mD w0 Z lb sb bb ab wb tail first n bud) 313 #[some lb,y] m (.int .i64 (dD tail y)) m:=QA
theorem mWt(y:Int):Ct (mD w0 Z lb sb bb ab wb tail first n bud) 314 #[some lb,y] m (.int .i64 (i4 tail y)) m:=QA
theorem Rj:Ct (mD w0 Z lb sb bb ab wb tail first n bud) 308 #[some lb] m (.int .i64 n) m:=QA
theorem N1:Ct (mD w0 [lb,sb,bb,ab,wb] lb sb bb ab wb tail first n bud) 315 #[some bb] m (.bool (jr m.B)) {m with B:=iT m.B}:=λw h=>(AB h.1.bn h.1.ar).mono λe w' ⟨h1,h2,h3⟩=>⟨h1,lH.US h.1 (h3.mono aS) h2 (h.1.ar.Rr h3 (by have:=h.1.ne;simp;omega) (by have:=h.1.ne;simp;omega)),h.2.trans (h3.mono aS)⟩
theorem Qx(x:Int):Ct (mD w0 [lb,sb,bb,ab,wb] lb sb bb ab wb tail first n bud) 318 #[some bb,x] m (.bool (mY n m.B x)) {m with B:=lf n m.B x}:=λw h=>(Cr h.1.bn h.1.ar x).mono λe w' ⟨h1,h2,h3⟩=>⟨h1,lH.US h.1 (h3.mono aS) h2 (h.1.ar.Rr h3 (by have:=h.1.ne;simp;omega) (by have:=h.1.ne;simp;omega)),h.2.trans (h3.mono aS)⟩
theorem KL:Ct (mD w0 [lb,sb,bb,ab,wb] lb sb bb ab wb tail first n bud) 316 #[some bb] m (.bool (cU first m.A m.B)) {m with A:=ca first m.A m.B,B:=b7 first m.A m.B}:=λw h=>(AA h.1.bn h.1.ar).mono λe w' ⟨h1,h2,h3,h4⟩=>⟨h1,lH.US h.1 h4 h2 h3,h.2.trans (h4.mono aS)⟩
theorem Qw:Ct (mD w0 [lb,sb,bb,ab,wb] lb sb bb ab wb tail first n bud) 323 #[some bb] m (.int .i64 m.B.Su) m:=λw h=>(Gi h.1.bn).mono λe w' ⟨h1,h2⟩=>⟨h1,h2 ▸ h⟩
theorem mJ(h:mD w0 [lb,sb,bb,ab,wb] lb sb bb ab wb tail first n bud w m):Hy (∀{m}(y:Int),Ct (mD w0 [lb,sb,bb,ab,wb] lb sb bb ab wb tail first n bud) 313 #[some lb,y] m (.int .i64 (dD tail y)) m)/\Hy (∀{m}(y:Int),Ct (mD w0 [lb,sb,bb,ab,wb] lb sb bb ab wb tail first n bud) 314 #[some lb,y] m (.int .i64 (i4 tail y)) m)/\Hy (∀{m}(x:Int),Ct (mD w0 [lb,sb,bb,ab,wb] lb sb bb ab wb tail first n bud) 318 #[some bb,x] m (.bool (mY n m.B x)) {m with B:=lf n m.B x})/\Hy (∀{m},Ct (mD w0 [lb,sb,bb,ab,wb] lb sb bb ab wb tail first n bud) 315 #[some bb] m (.bool (jr m.B)) {m with B:=iT m.B})/\Hy (∀{m},Ct (mD w0 [lb,sb,bb,ab,wb] lb sb bb ab wb tail first n bud) 316 #[some bb] m (.bool (cU first m.A m.B)) {m with A:=ca first m.A m.B,B:=b7 first m.A m.B})/\Hy (∀{m},Ct (mD w0 [lb,sb,bb,ab,wb] lb sb bb ab wb tail first n bud) 323 #[some bb] m (.int .i64 m.B.Su) m)/\Hy (∀{m},Ct (mD w0 [lb,sb,bb,ab,wb] lb sb bb ab wb tail first n bud) 308 #[some lb] m (.int .i64 n) m):=⟨mNx,mWt,Qx,N1,KL,Qw,Rj⟩
theorem mW{p:Prop}(t:Nat)(h:Tg t->p:=by
 intro HT w HS;obtain⟨CK,DR,DA,HA,Pa,Pb,Pc,Pd,Pe,CZ,RA,RP,RQ⟩:=mI HS hj;have C:=CK.o HS;obtain⟨K1,K2,K3,K4,K5,K6,K7⟩:=mJ HS;replace HS:=aH HS;exact gW):p:=h ⟨⟩
theorem mIn(hj:j<n)(c:1<=m.S j 0/\m.S j 0<=5):Ct (mD w0 [lb,sb,bb,ab,wb] lb sb bb ab wb tail first n bud) 310 #[some lb,.pointer (some ⟨sb,j*4,none⟩),((j:Int)+1:Int)] m (.int .i64 (fD tail first n bud m j).2) (fD tail first n bud m j).1:=by
 have:m.S j 0=1\/m.S j 0=2\/m.S j 0=3\/m.S j 0=4\/m.S j 0=5:=by omega
 clear c;rcases this with h|h|h|h|h
 ·rw[zG h];exact mW 9
 ·rw[zH h];exact mW 9
 ·rw[zI h];exact qe (λa=>mW 1) λa=>mW 1
 ·rw[zJ h];exact mW 9
 ·rw[ww h];exact qe (λa=>mW 9) λa=>mW 9
theorem KV(hj:j<n):Ct (mD w0 [lb,sb,bb,ab,wb] lb sb bb ab wb tail first n bud) 317 #[some lb,.pointer (some ⟨sb,j*4,none⟩)] m (.int .i64 (Bg m.B.Su (m.S j 1))) {m with S:=aa m.S j 2 m.B.Su}:=by
 unfold Bg;by_cases h1:m.B.Su=0<;>by_cases h2:m.S j 1=0<;>simp only[ad,ac,h1,h2,not_false_iff]<;>exact mW 2
theorem KM(hj:j<n)(f:11<=m.S j 0/\m.S j 0<=16):Ct (mD w0 [lb,sb,bb,ab,wb] lb sb bb ab wb tail first n bud) 311 #[some lb,.pointer (some ⟨sb,j*4,none⟩),((j:Int)+1:Int)] m (.int .i64 (fD tail first n bud m j).2) (fD tail first n bud m j).1:=by
 have:m.S j 0=11\/m.S j 0=12\/m.S j 0=13\/m.S j 0=14\/m.S j 0=15\/m.S j 0=16:=by omega
 rcases this with h|h|h|h|h|h
 ·rw[yo h];exact mW 3
 ·rw[yp h];refine qe (λa=>?_) λa=>?_
  ·obtain⟨a,hm⟩:=a;exact mW 1
  ·by_cases c:m.A.get (dD tail ((j:Int)+1))=0
   ·clear a;rw[c];exact mW 1
   ·have hm:(m.S j 3).tmod (bud+1)=0:=FM λe=>a ⟨c,e⟩;clear a;exact mW 1
 ·rw[yq h];exact Hs (λa=>have K8:=aH <| KV (w0:=w0) (wb:=wb) (m:={m with A:=ca first m.A m.B,B:=b7 first m.A m.B}) hj;mW 2) λa=>mW 9
 ·rw[yr h];exact mW 9
 ·rw[ys h];exact mW 9
 ·rw[yt h];exact Hs (λa=>mW 9) λa=>mW 9
theorem KT(hj:j<n)(c:17<=m.S j 0/\m.S j 0<=24):Ct (mD w0 [lb,sb,bb,ab,wb] lb sb bb ab wb tail first n bud) 312 #[some lb,.pointer (some ⟨sb,j*4,none⟩),((j:Int)+1:Int)] m (.int .i64 (fD tail first n bud m j).2) (fD tail first n bud m j).1:=by
 have:m.S j 0=17\/m.S j 0=18\/m.S j 0=19\/m.S j 0=20\/m.S j 0=21\/m.S j 0=22\/m.S j 0=23\/m.S j 0=24:=by omega
 rcases this with h|h|h|h|h|h|h|h
 ·rw[uA h];exact qe (λa=>mW 1) λa=>mW 1
 ·rw[yu h];exact mW 9
 ·rw[yv h];exact Hs (λa=>mW 9) λa=>mW 9
 ·rw[uB h];exact qe (λa=>mW 1) λa=>mW 1
 ·rw[yw h];exact qe (λa=>mW 4) λa=>mW 4
 ·rw[yx h];exact Hs (λa=>mW 9) λa=>mW 9
 ·rw[yz h];exact mW 9
 ·rw[yA h];exact mW 9
theorem KZ{p:Prop}(h:p:=by
 intro w HS;have C:=mK HS;replace HS:=aH HS
 go_in
 go_wp2_with(first
  |((with_reducible refine KF (mD.al HS.o _) ?_);clear HS C;intro w HS;have C:=mK HS.o)
  |(go_at_call 308;refine lP Rj HS ?_;clear HS C;intro w HS;have C:=mK HS.o)
  |(go_at_call 306;refine lP KS HS ?_;clear HS C;intro w HS;have C:=mK HS.o)
  |(go_at_call 309;refine lP KB HS ?_;clear HS C;intro w HS;have C:=mK HS.o))
 all_goals
  go_returns
  exact⟨rfl,HS.o⟩):p:=h
theorem R7(i:Int):Ct (mD w0 Z lb sb bb ab wb tail first n bud) 306 #[some lb,i] m (mB n m.S i) m:=λw h=>(tP h.1 i).mono λe w' ⟨h1,h2⟩=>⟨h1,lH.Rr h.1 h2 aS,h.2.trans (h2.mono aS)⟩
def fV(n:Nat)(m:MS)(i fr:Int):Bool:=bC n i&&(m.S i.toNat 0==fr)
def kL(n:Nat)(m:MS)(i fr tz:Int):MS:=if fV n m i fr then{m with S:=aa m.S i.toNat 0 tz} else m
theorem Ec(i fr tz:Int):Ct (mD w0 [lb,sb,bb,ab,wb] lb sb bb ab wb tail first n bud) 309 #[some lb,i,fr,tz] m (.bool (fV n m i fr)) (kL n m i fr tz):=by
 unfold kL fV;rcases Nw n i with⟨h,h1⟩|⟨h,h1,h2⟩|⟨j,rfl,hj,h⟩<;>rw[h]
 ·exact KZ
 ·exact KZ
 ·by_cases a:m.S j 0=fr
  ·rw[cH,ad (by simpa using a),show(m.S j 0==fr)=true by simpa using a];subst a;exact mW 0
  ·rw[cH,ac (by simpa using a),show(m.S j 0==fr)=false by simpa using a];exact mW 0
theorem Sw(i:Int):Ct (mD w0 [lb,sb,bb,ab,wb] lb sb bb ab wb tail first n bud) 304 #[some lb,i] m (.bool (fV n m i 0)) (kL n m i 0 1):=have KB:=Ec (w0:=w0) (m:=m) i 0 1;KZ
theorem RW(i:Int):Ct (mD w0 [lb,sb,bb,ab,wb] lb sb bb ab wb tail first n bud) 305 #[some lb,i] m (.bool (fV n m i 10)) (kL n m i 10 11):=have KB:=Ec (w0:=w0) (m:=m) i 10 11;KZ
theorem Qy(hj:j<n):Ct (mD w0 Z lb sb bb ab wb tail first n bud) 306 #[some lb,j] m (.agg #[(m.S j 0:Int),(m.S j 1:Int),(m.S j 2:Int),(m.S j 3:Int)]) m:=by
 have:=R7 (w0:=w0) (Z:=Z) (lb:=lb) (sb:=sb) (bb:=bb) (ab:=ab) (wb:=wb) (tail:=tail) (first:=first) (n:=n) (bud:=bud) (m:=m) j;unfold mB bC at this
 rwa [ad aQ] at this
theorem Qz{N:Nat}(hj:j<n){r:Int}{f:MS}(o:¬m.S j 0=0)(h1:¬m.S j 0=10)(i:N=310/\m.S j 0<10\/N=311/\¬m.S j 0<10/\m.S j 0<17\/N=312/\¬m.S j 0<10/\¬m.S j 0<17)
 (K:Ct (mD w0 [lb,sb,bb,ab,wb] lb sb bb ab wb tail first n bud) N #[some lb,.pointer (some ⟨sb,j*4,none⟩),((j:Int)+1:Int)] m (.int .i64 r) f):Ct (mD w0 [lb,sb,bb,ab,wb] lb sb bb ab wb tail first n bud) 307 #[some lb,j] m (.bool (r==0||r==10)) {f with S:=aa f.S j 0 r}:=by
 have K8:=aH K;clear K;have K9:=aH <| Qy (w0:=w0) (Z:=[lb,sb,bb,ab,wb]) (lb:=lb) (sb:=sb) (bb:=bb) (ab:=ab) (wb:=wb) (tail:=tail) (first:=first) (bud:=bud) (m:=m) hj
 have l:=E9;have e:r=0\/r=10\/(¬r=0/\¬r=10/\(r==0||r==10)=false):=by
  by_cases a:r=0
  ·exact .inl a
  ·by_cases c:r=10
   ·exact .inr (.inl c)
   ·exact .inr (.inr ⟨a,c,by simp[a,c]⟩)
 rcases i with⟨rfl,h2⟩|⟨rfl,h2,h3⟩|⟨rfl,h2,h3⟩<;>rcases e with rfl|rfl|⟨a,c,g⟩<;>(try rw[g];clear g)<;>exact mW 99
def np(tail first n:Nat)(bud:Int)(m:MS)(i:Int):MS:=if bC n i then RK tail first n bud m i.toNat else m
def n5(tail first n:Nat)(bud:Int)(m:MS)(i:Int):Bool:=if bC n i then nr tail first n bud m i.toNat else false
theorem n6(m:MS)(j:Nat):({m with S:=aa m.S j 0 (m.S j 0)}:MS)=m:=by rw[sx]
theorem tO(a:m.S j 0=0\/m.S j 0=10):fD tail first n bud m j=(m,m.S j 0):=by unfold fD;rcases a with a|a<;>simp[a]
theorem KU(i:Int)(b:∀j,j<n->gd (m.S j 0)):Ct (mD w0 [lb,sb,bb,ab,wb] lb sb bb ab wb tail first n bud) 307 #[some lb,i] m (.bool (n5 tail first n bud m i)) (np tail first n bud m i):=by
 unfold np n5;have c:=E9;have KS:=R7 (w0:=w0) (Z:=[lb,sb,bb,ab,wb]) (lb:=lb) (sb:=sb) (bb:=bb) (ab:=ab) (wb:=wb) (tail:=tail) (first:=first) (n:=n) (bud:=bud) (m:=m) i;unfold mB at KS;rcases Nw n i with⟨h,h1⟩|⟨h,h1,h2⟩|⟨j,rfl,hj,h⟩<;>rw[h] at KS⊢
 ·exact KZ
 ·exact KZ
 ·have b:=b j hj;rw[ad rfl,ad rfl,cH];rw[ad rfl,cH] at KS;unfold RK nr;by_cases hi:m.S j 0=0\/m.S j 0=10
  ·rw[tO hi,n6];rcases hi with e|e<;>rw[e]<;>rw[e] at KS<;>exact KZ
  ·have a:¬m.S j 0=0:=λe=>hi (.inl e);have h1:¬m.S j 0=10:=λe=>hi (.inr e);rw[show(m.S j 0==0)=false by simpa using a,show(m.S j 0==10)=false by simpa using h1];unfold gd at b;rcases(show(1<=m.S j 0/\m.S j 0<=5)\/(11<=m.S j 0/\m.S j 0<=16)\/(17<=m.S j 0/\m.S j 0<=24) by omega) with q|q|q
   ·exact Qz hj a h1 (.inl ⟨rfl,by omega⟩) (mIn hj q)
   ·exact Qz hj a h1 (.inr (.inl ⟨rfl,by omega,by omega⟩)) (KM hj q)
   ·exact Qz hj a h1 (.inr (.inr ⟨rfl,by omega,by omega⟩)) (KT hj q)
end
structure WV where
 tl:Int
 nx:Nat->Int
 wt:Nat->Int
 bf:Int
 bl:Int
 lk:Nat->Int
structure eA(n:Nat)(w:WV)(S:Nat->Nat->Int)(Q L c:List Nat)(o:Option Nat):Prop where
 nd:(Q++(L++c)).Nodup
 lt:∀j∈Q++(L++c),j<n
 mem:∀j,j<n->S j 0=4\/S j 0=5->j∈Q++(L++c)
 idle:∀j∈Q++(L++c),o≠some j->S j 0=4\/S j 0=5
 RS:∀j∈L++c,S j 0=5
 RG:∀j,j<n->10<=S j 0->o=some j
 Rv:∀x,o=some x->x<n/\10<=S x 0/\x∉Q.tail/\x∉L++c
 RC:∀j,j<n->gd (S j 0)
 tl:w.tl=qf Q
 ql:QL S w.nx Q
 w1:∀j∈Q.tail++(L++c),w.wt j=1
 p2:∀j,j<n->S j 0=2->w.nx j=0
 p3:∀j,j<n->S j 0=3->w.nx j=0/\w.wt j=1
section
variable{n:Nat}{w w':WV}{S S':Nat->Nat->Int}{Q L c:List Nat}{o:Option Nat}
variable{x:Nat}
theorem eA.own(h:eA n w S Q L c (some x))(b:∀j,j≠x->∀t,S' j t=S j t)(f:10<=S' x 0/\S' x 0<=24)(h1:w'.tl=w.tl)(h2:w'.nx=w.nx)(h3:w'.wt=w.wt):eA n w' S' Q L c (some x):=by
 have d:=h.Rv x rfl;refine{nd:=h.nd,lt:=h.lt,mem:=λj hj a=>?_,idle:=λj hj a=>?_,RS:=λj hj=>?_,RG:=λj hj a=>?_,Rv:=λy g=>?_,RC:=λj hj=>?_,tl:=by rw[h1];exact h.tl,ql:=?_,w1:=by rw[h3];exact h.w1,p2:=λj hj a=>?_,p3:=λj hj a=>?_}
 ·by_cases e:j=x
  ·subst e;omega
  ·rw[b j e] at a;exact h.mem j hj a
 ·have e:j≠x:=λe=>a (by rw[e]);rw[b j e];exact h.idle j hj a
 ·have e:j≠x:=λe=>d.2.2.2 (e ▸ hj);rw[b j e];exact h.RS j hj
 ·by_cases e:j=x
  ·rw[e]
  ·rw[b j e] at a;exact h.RG j hj a
 ·obtain rfl:x=y:=by simpa using g
  exact⟨d.1,f.1,d.2.2⟩
 ·by_cases e:j=x
  ·subst e;exact .inr f
  ·rw[b j e];exact h.RC j hj
 ·refine h.ql.congr (λj _=>by rw[h2]) λj hj=>?_;have e:j≠x:=λe=>d.2.2.1 (e ▸ hj);exact⟨b j e 0,b j e 1⟩
 ·have e:j≠x:=λe=>by subst e;omega
  rw[h2];rw[b j e] at a;exact h.p2 j hj a
 ·have e:j≠x:=λe=>by subst e;omega
  rw[h2,h3];rw[b j e] at a;exact h.p3 j hj a
variable{j:Nat}
theorem eA.early{pc:Int}(h:eA n w S Q L c o)(hj:j<n)(q:0<=S j 0/\S j 0<=3)(p:0<=pc/\pc<=3)(hn:∀k,k≠j->w'.nx k=w.nx k)(l:∀k,k≠j->w'.wt k=w.wt k)(ht:w'.tl=w.tl)(g:pc=2->w'.nx j=0)(i:pc=3->w'.nx j=0/\w'.wt j=1):eA n w' (aa S j 0 pc) Q L c o:=by
 have f:j∉Q++(L++c):=λhm=>by
  by_cases e:o=some j
  ·have:=(h.Rv j e).2.1;omega
  ·have:=h.idle j hm e;omega
 have ho:o≠some j:=λe=>by have:=(h.Rv j e).2.1;omega
 have d:∀k∈Q++(L++c),k≠j:=λk a e=>f (e ▸ a);refine{nd:=h.nd,lt:=h.lt,mem:=λk a b=>?_,idle:=λk a b=>?_,RS:=λk a=>?_,RG:=λk a b=>?_,Rv:=λy m=>?_,RC:=λk a=>?_,tl:=by rw[ht];exact h.tl,ql:=?_,w1:=λk a=>?_,p2:=λk a b=>?_,p3:=λk a b=>?_}
 ·by_cases e:k=j
  ·subst e;rw[ak] at b;omega
  ·rw[aj _ _ _ _ e] at b;exact h.mem k a b
 ·rw[aj _ _ _ _ (d k a)];exact h.idle k a b
 ·rw[aj _ _ _ _ (d k (fc.2 (.inr a)))];exact h.RS k a
 ·by_cases e:k=j
  ·subst e;rw[ak] at b;omega
  ·rw[aj _ _ _ _ e] at b;exact h.RG k a b
 ·have e:y≠j:=λe=>ho (e ▸ m);rw[aj _ _ _ _ e];exact h.Rv y m
 ·by_cases e:k=j
  ·subst e;rw[ak];exact .inl aO
  ·rw[aj _ _ _ _ e];exact h.RC k a
 ·refine h.ql.congr (λk a=>hn k (d k (fc.2 (.inl a)))) λk a=>?_;have e:=d k (fc.2 (.inl (sZ a)));exact⟨aj _ _ _ _ e,aj _ _ _ _ e⟩
 ·have e:k≠j:=d k (by rcases fc.1 a with a|a;exact fc.2 (.inl (sZ a));exact fc.2 (.inr a));rw[l k e];exact h.w1 k a
 ·by_cases e:k=j
  ·subst e;rw[ak] at b;exact g b
  ·rw[aj _ _ _ _ e] at b;rw[hn k e];exact h.p2 k a b
 ·by_cases e:k=j
  ·subst e;rw[ak] at b;exact i b
  ·rw[aj _ _ _ _ e] at b;rw[hn k e,l k e];exact h.p3 k a b
theorem eA.UC{v:Int}(h:eA n w S [] [] [] none)(hj:j<n)(f:S j 0=3)(ht:w'.tl=(j:Int)+1)(hn:w'.nx=w.nx)(g:w'.wt=w.wt):eA n w' (aa (aa S j 1 v) j 0 10) [j] [] [] (some j):=by
 have hs:∀k,k≠j->aa (aa S j 1 v) j 0 10 k 0=S k 0:=λk e=>by rw[aj _ _ _ _ e,aj _ _ _ _ e]
 have d:aa (aa S j 1 v) j 0 10 j 0=10:=ak _ _ _ _;refine{nd:=by simp,lt:=by simpa using hj,mem:=λk b a=>?_,idle:=λk b a=>?_,RS:=by simp,RG:=λk b a=>?_,Rv:=λy i=>?_,RC:=λk b=>?_,tl:=ht,ql:=by unfold QL;rw[hn];exact(h.p3 j hj f).1,w1:=by simp,p2:=λk b a=>?_,p3:=λk b a=>?_}
 ·by_cases e:k=j
  ·subst e;simp
  ·rw[hs k e] at a;simpa using h.mem k b a
 ·simp at b;subst b;exact am rfl a
 ·by_cases e:k=j
  ·rw[e]
  ·rw[hs k e] at a;have:=h.RG k b a;simp at this
 ·obtain rfl:j=y:=by simpa using i
  exact⟨hj,by rw[d];omega,by simp,by simp⟩
 ·by_cases e:k=j
  ·subst e;rw[d];exact .inr aO
  ·rw[hs k e];exact h.RC k b
 ·have e:k≠j:=λe=>by subst e;omega
  rw[hs k e] at a;rw[hn];exact h.p2 k b a
 ·have e:k≠j:=λe=>by subst e;omega
  rw[hs k e] at a;rw[hn,g];exact h.p3 k b a
theorem eA.TP(h:eA n w S Q L c o)(hj:j<n)(q:S j 0=3)(s:Q≠[])(ht:w'.tl=(j:Int)+1)(hn:w'.nx=w.nx)(u:w'.wt=w.wt):eA n w' (aa (aa S j 1 (qf Q)) j 0 4) (Q++[j]) L c o:=by
 have ho:o≠some j:=λe=>by have:=(h.Rv j e).2.1;omega
 have p:j∉Q++(L++c):=λhm=>by have:=h.idle j hm ho;omega
 have i:∀k∈Q++(L++c),k≠j:=λk b e=>p (e ▸ b);have hs:∀k,k≠j->∀t,aa (aa S j 1 (qf Q)) j 0 4 k t=S k t:=λk e t=>by rw[aj _ _ _ _ e,aj _ _ _ _ e]
 have g:aa (aa S j 1 (qf Q)) j 0 4 j 0=4:=ak _ _ _ _;have l:aa (aa S j 1 (qf Q)) j 0 4 j 1=qf Q:=by rw[bZ _ _ _ _ aO,ak]
 have f:∀k,k∈(Q++[j])++(L++c)↔k=j\/k∈Q++(L++c):=λk=>by simp;grind
 have m:(Q++[j]).tail=Q.tail++[j]:=by cases Q with|nil=>exact am rfl s|cons a r=>rfl
 refine{nd:=?_,lt:=λk b=>?_,mem:=λk b d=>?_,idle:=λk b d=>?_,RS:=λk b=>?_,RG:=λk b d=>?_,Rv:=λy v=>?_,RC:=λk b=>?_,tl:=by rw[ht,kK],ql:=?_,w1:=λk b=>?_,p2:=λk b d=>?_,p3:=λk b d=>?_}
 ·have:=h.nd;rw[Je];rw[pJ] at this⊢
  grind
 ·rcases(f k).1 b with e|b
  ·rw[e];exact hj
  ·exact h.lt k b
 ·rw[f];by_cases e:k=j
  ·exact .inl e
  ·rw[hs k e] at d;exact .inr (h.mem k b d)
 ·by_cases e:k=j
  ·subst e;exact .inl g
  ·rw[hs k e];exact h.idle k (((f k).1 b).resolve_left e) d
 ·rw[hs k (i k (fc.2 (.inr b)))];exact h.RS k b
 ·by_cases e:k=j
  ·subst e;omega
  ·rw[hs k e] at d;exact h.RG k b d
 ·have e:y≠j:=λe=>ho (e ▸ v);have:=h.Rv y v;rw[hs y e,m];exact⟨this.1,this.2.1,by simp;exact⟨this.2.2.1,e⟩,this.2.2.2⟩
 ·by_cases e:k=j
  ·subst e;rw[g];exact .inl aO
  ·rw[hs k e];exact h.RC k b
 ·refine QL.append ?_ s g l (by rw[hn];exact(h.p3 j hj q).1);refine h.ql.congr (λk _=>by rw[hn]) λk b=>?_;have e:=i k (fc.2 (.inl (sZ b)));exact⟨hs k e 0,hs k e 1⟩
 ·rw[m] at b;rw[u];by_cases e:k=j
  ·subst e;exact(h.p3 k hj q).2
  ·exact h.w1 k (by simp at b⊢;grind)
 ·have e:k≠j:=λe=>by subst e;omega
  rw[hs k e] at d;rw[hn];exact h.p2 k b d
 ·have e:k≠j:=λe=>by subst e;omega
  rw[hs k e] at d;rw[hn,u];exact h.p3 k b d
theorem eA.link{j:Nat}(h:eA n w S Q L c o)(hj:j<n)(g:S j 0=4)(u:∀a r,Q=a::r->S a 0≠4):
 ∃p,p<n/\S j 1=(p:Int)+1/\∀w':WV,w'.tl=w.tl->w'.nx=lG w.nx p ((j:Int)+1)->w'.wt=w.wt->eA n w' (aa S j 0 5) Q L c o:=by
 have hm:=h.mem j hj (.inl g);have i:j∈Q.tail:=by
  rcases fc.1 hm with hm|hm
  ·cases Q with
   |nil=>simp at hm
   |cons a r=>
    rcases kq.1 hm with e|hm
    ·exact am g (u j r (by rw[e]))
    ·exact hm
  ·have:=h.RS j hm;omega
 obtain⟨p,q,v,ha,x,m⟩:=h.ql.link (pJ.1 h.nd).1 i g;have ho:o≠some j:=λe=>by have:=(h.Rv j e).2.1;omega
 have l:=h.lt p (fc.2 (.inl q));have f:S p 0≠2/\S p 0≠3:=by
  by_cases e:o=some p
  ·have:=(h.Rv p e).2.1;omega
  ·have:=h.idle p (fc.2 (.inl q)) e;omega
 refine⟨p,l,ha,λw' ht hn s=>?_⟩;refine{nd:=h.nd,lt:=h.lt,mem:=λk d b=>?_,idle:=λk d b=>?_,RS:=λk d=>?_,RG:=λk d b=>?_,Rv:=λy t=>?_,RC:=λk d=>?_,tl:=by rw[ht];exact h.tl,ql:=by rw[hn];exact m,w1:=by rw[s];exact h.w1,p2:=λk d b=>?_,p3:=λk d b=>?_}
 ·by_cases e:k=j
  ·rw[e];exact hm
  ·rw[aj _ _ _ _ e] at b;exact h.mem k d b
 ·by_cases e:k=j
  ·subst e;exact .inr (ak _ _ _ _)
  ·rw[aj _ _ _ _ e];exact h.idle k d b
 ·by_cases e:k=j
  ·subst e;exact ak _ _ _ _
  ·rw[aj _ _ _ _ e];exact h.RS k d
 ·by_cases e:k=j
  ·subst e;rw[ak] at b;omega
  ·rw[aj _ _ _ _ e] at b;exact h.RG k d b
 ·have e:y≠j:=λe=>ho (e ▸ t);rw[aj _ _ _ _ e];exact h.Rv y t
 ·by_cases e:k=j
  ·subst e;rw[ak];exact .inl aO
  ·rw[aj _ _ _ _ e];exact h.RC k d
 ·by_cases e:k=j
  ·subst e;rw[ak] at b;omega
  ·rw[aj _ _ _ _ e] at b;rw[hn,cG _ _ (λe=>by subst e;exact f.1 b)];exact h.p2 k d b
 ·by_cases e:k=j
  ·subst e;rw[ak] at b;omega
  ·rw[aj _ _ _ _ e] at b;rw[hn,s,cG _ _ (λe=>by subst e;exact f.2 b)];exact h.p3 k d b
theorem eA.enter{r:List Nat}(h:eA n w S (j::r) L c none)(i:S j 0=5)(ht:w'.tl=w.tl)(hn:w'.nx=w.nx)(f:w'.wt=w.wt):eA n w' (aa S j 0 10) (j::r) L c (some j):=by
 have hj:j<n:=h.lt j aS;have d:=kY.1 (show(j::(r++(L++c))).Nodup from h.nd);refine{nd:=h.nd,lt:=h.lt,mem:=λk a b=>?_,idle:=λk a b=>?_,RS:=λk a=>?_,RG:=λk a b=>?_,Rv:=λy g=>?_,RC:=λk a=>?_,tl:=by rw[ht];exact h.tl,ql:=?_,w1:=by rw[f];exact h.w1,p2:=λk a b=>?_,p3:=λk a b=>?_}
 ·by_cases e:k=j
  ·subst e;simp
  ·rw[aj _ _ _ _ e] at b;exact h.mem k a b
 ·have e:k≠j:=λe=>b (by rw[e]);rw[aj _ _ _ _ e];exact h.idle k a aS
 ·have e:k≠j:=λe=>d.1 (by subst e;exact fc.2 (.inr a));rw[aj _ _ _ _ e];exact h.RS k a
 ·by_cases e:k=j
  ·rw[e]
  ·rw[aj _ _ _ _ e] at b;have:=h.RG k a b;simp at this
 ·obtain rfl:j=y:=by simpa using g
  exact⟨hj,by rw[ak];omega,λhm=>d.1 (fc.2 (.inl hm)),λhm=>d.1 (fc.2 (.inr hm))⟩
 ·by_cases e:k=j
  ·subst e;rw[ak];exact .inr aO
  ·rw[aj _ _ _ _ e];exact h.RC k a
 ·refine h.ql.congr (λk _=>by rw[hn]) λk a=>?_;have e:k≠j:=λe=>d.1 (by subst e;exact fc.2 (.inl a));exact⟨aj _ _ _ _ e,aj _ _ _ _ e⟩
 ·by_cases e:k=j
  ·subst e;rw[ak] at b;omega
  ·rw[aj _ _ _ _ e] at b;rw[hn];exact h.p2 k a b
 ·by_cases e:k=j
  ·subst e;rw[ak] at b;omega
  ·rw[aj _ _ _ _ e] at b;rw[hn,f];exact h.p3 k a b
theorem eA.re{Q0 Q' i c':List Nat}{v:Option Nat}(h:eA n w S Q L c (some x))(hQ:Q=x::Q0\/(Q=Q0/\x∉Q0))(g:(Q'++(i++c')).Perm (Q0++(L++c)))(l:∀j,j≠x->∀t,S' j t=S j t)(ho:(v=some x/\10<=S' x 0/\S' x 0<=24)\/(v=none/\S' x 0=0))(A:∀j∈i++c',S j 0=5)(ht:w'.tl=qf Q')(r:QL S w'.nx Q')(s:∀j∈Q'.tail++(i++c'),w'.wt j=1)(a:∀k,k∉Q'++(i++c')->w'.nx k=w.nx k/\w'.wt k=w.wt k):eA n w' S' Q' i c' v:=by
 have u:=h.Rv x rfl;have C:x∉Q0:=by
  rcases hQ with rfl|⟨rfl,h1⟩
  ·simpa using u.2.2.1
  ·exact h1
 have b:∀j,j∈Q'++(i++c')↔(j≠x/\j∈Q++(L++c)):=λj=>by
  rw[g.mem_iff];have h4:=u.2.2.2;rcases hQ with rfl|⟨rfl,h1⟩<;>simp at h4⊢<;>grind
 have q:(Q0++(L++c)).Nodup:=by
  have:=h.nd;rcases hQ with rfl|⟨rfl,h1⟩
  ·exact(kY.1 this).2
  ·exact this
 have f:∀k∈Q'++(i++c'),k≠x:=λk a=>((b k).1 a).1;have B:¬(S' x 0=4\/S' x 0=5\/S' x 0=2\/S' x 0=3):=by omega
 refine{nd:=g.nodup_iff.2 q,lt:=λk a=>h.lt k ((b k).1 a).2,mem:=λk a d=>?_,idle:=λk a d=>?_,RS:=λk a=>?_,RG:=λk a d=>?_,Rv:=λy z=>?_,RC:=λk a=>?_,tl:=ht,ql:=?_,w1:=s,p2:=λk m d=>?_,p3:=λk m d=>?_}
 ·by_cases e:k=x
  ·subst e;omega
  ·rw[l k e] at d;exact(b k).2 ⟨e,h.mem k a d⟩
 ·have e:=f k a;rw[l k e];exact h.idle k ((b k).1 a).2 (λp=>e (by simpa using p.symm))
 ·rw[l k (f k (fc.2 (.inr a)))];exact A k a
 ·by_cases e:k=x
  ·subst e;rcases ho with⟨rfl,_⟩|⟨_,D⟩
   ·rfl
   ·omega
  ·rw[l k e] at d;have:=h.RG k a d;simp at this;exact am this.symm e
 ·rcases ho with⟨rfl,h1⟩|⟨rfl,_⟩
  ·obtain rfl:x=y:=by simpa using z
   exact⟨u.1,h1.1,λhm=>f x (fc.2 (.inl (sZ hm))) rfl,λhm=>f x (fc.2 (.inr hm)) rfl⟩
  ·simp at z
 ·by_cases e:k=x
  ·subst e;rcases ho with⟨_,h1⟩|⟨_,h1⟩
   ·exact .inr h1
   ·rw[h1];exact .inl aO
  ·rw[l k e];exact h.RC k a
 ·refine r.congr (λk _=>rfl) λk a=>?_;have e:=f k (fc.2 (.inl (sZ a)));exact⟨l k e 0,l k e 1⟩
 ·have e:k≠x:=λe=>by subst e;omega
  rw[l k e] at d;have:k∉Q'++(i++c'):=λhm=>by have:=h.idle k ((b k).1 hm).2 (λp=>e (by simpa using p.symm));omega
  rw[(a k this).1];exact h.p2 k m d
 ·have e:k≠x:=λe=>by subst e;omega
  rw[l k e] at d;have:k∉Q'++(i++c'):=λhm=>by have:=h.idle k ((b k).1 hm).2 (λp=>e (by simpa using p.symm));omega
  rw[(a k this).1,(a k this).2];exact h.p3 k m d
end
def rx:List Nat->Int
 | []=>0
 |x::_=>(x:Int)+1
def LQ(f:Nat->Int):List Nat->Prop
 | []=>True
 | [z]=>f z=0
 |p::q::r=>f p=(q:Int)+1/\LQ f (q::r)
theorem LQ.congr{f g:Nat->Int}:∀{L:List Nat},LQ f L->(∀j∈L,g j=f j)->LQ g L
 | [],_,_=>trivial
 | [z],h,hn=>by have:=hn z aS;unfold LQ at h⊢;omega
 |p::q::r,h,hn=>⟨by rw[hn p aS];exact h.1,LQ.congr h.2 (λj hj=>hn j (pI _ hj))⟩
theorem LQ.append{f:Nat->Int}{a:Nat}:∀{L:List Nat}{z:Nat},LQ f L->L.Nodup->qf L=(z:Int)+1->a∉L->f a=0->LQ (lG f z ((a:Int)+1)) (L++[a])
 | [],_,_,_,h,_,_=>by unfold qf at h;omega
 | [y],z,h,_,e,ha,c=>by
  unfold qf at e;have:y=z:=by omega
  subst this;have d:a≠y:=by simpa using ha
  exact⟨eJ _ _ _,by unfold LQ;rw[cG _ _ d];exact c⟩
 |p::q::r,z,h,g,e,ha,c=>by
  have b:=kY.1 g;obtain⟨j,i,k⟩:=mu (q::r) aS;have l:qf (p::q::r)=qf (q::r):=rfl;have:j=z:=by omega
  subst this;refine⟨?_,LQ.append (L:=q::r) h.2 b.2 aO (λhm=>ha (pI _ hm)) c⟩;rw[cG _ _ (λe=>b.1 (by subst e;exact i))];exact h.1
theorem LQ.lone{f:Nat->Int}{y:Nat}{r:List Nat}(h:LQ f (y::r)):f y=rx r:=by
 cases r with
 |nil=>exact h
 |cons q r=>exact h.1
structure F3(w:WV)(L:List Nat):Prop where
 hd:w.bf=rx L
 la:w.bl=qf L
 ln:LQ w.lk L
def BP(w:WV)(B:BK)(L:List Nat):Prop:=
 (B.step=0/\F3 w L)\/(B.step=5/\F3 w L)\/(B.step=6/\F3 w L/\∃y r,L=y::r/\B.x=(y:Int)+1)\/(B.step=7/\F3 w L/\∃y r,L=y::r/\B.x=(y:Int)+1/\B.n=w.lk y)\/
 (B.step=8/\∃y,L=[y]/\B.x=(y:Int)+1/\w.bf=0)\/(B.step=1/\F3 w L)\/(B.step=2/\F3 w L/\∃a:Nat,B.x=(a:Int)+1/\w.lk a=0)\/
 (B.step=3/\F3 w L/\∃a:Nat,B.x=(a:Int)+1/\w.lk a=0/\B.n=w.bl)\/(B.step=4/\∃a:Nat,B.x=(a:Int)+1/\w.bf=rx (L++[a])/\LQ w.lk (L++[a]))
def tc(w:WV)(B:BK):Bool:=decide (B.step=4)||decide (B.step=8)||(decide (B.step=5)&&decide (w.bf=0))||(decide (B.step=7)&&decide (¬B.n=0))
def f6(w:WV)(B:BK):BK:=
 if B.step=1 then⟨2,B.x,B.n,B.Su⟩ else if B.step=2 then⟨3,B.x,w.bl,B.Su⟩ else if B.step=3 then⟨4,B.x,B.n,B.Su⟩ else if B.step=4 then⟨0,B.x,B.n,B.Su⟩
 else if B.step=5 then(if w.bf=0 then⟨0,0,B.n,0⟩ else⟨6,w.bf,B.n,B.Su⟩) else if B.step=6 then⟨7,B.x,w.lk (B.x - 1).toNat,B.Su⟩
 else if B.step=7 then(if B.n=0 then⟨8,B.x,B.n,B.Su⟩ else⟨0,B.x,B.n,B.x⟩) else if B.step=8 then⟨0,B.x,B.n,B.x⟩ else B
def jh(w:WV)(B:BK):WV:=
 if B.step=1 then{w with lk:=lG w.lk (B.x - 1).toNat 0} else if B.step=3 then(if B.n=0 then{w with bf:=B.x} else{w with lk:=lG w.lk (B.n - 1).toNat B.x}) else if B.step=4 then{w with bl:=B.x}
 else if B.step=7 then{w with bf:=B.n} else if B.step=8 then{w with bl:=0} else w
variable{w:WV}{B:BK}{L:List Nat}
theorem BP.kept{w':WV}(h:BP w B L)(h1:w'.bf=w.bf)(h2:w'.bl=w.bl)(h3:w'.lk=w.lk):BP w' B L:=by
 have a:F3 w L->F3 w' L:=λr=>⟨by rw[h1];exact r.hd,by rw[h2];exact r.la,by rw[h3];exact r.ln⟩
 unfold BP at h⊢;rw[h1,h2,h3];rcases h with h|h|h|h|h|h|h|h|h
 ·exact .inl ⟨h.1,a h.2⟩
 ·exact .inr (.inl ⟨h.1,a h.2⟩)
 ·exact .inr (.inr (.inl ⟨h.1,a h.2.1,h.2.2⟩))
 ·exact .inr (.inr (.inr (.inl ⟨h.1,a h.2.1,h.2.2⟩)))
 ·exact .inr (.inr (.inr (.inr (.inl h))))
 ·exact .inr (.inr (.inr (.inr (.inr (.inl ⟨h.1,a h.2⟩)))))
 ·exact .inr (.inr (.inr (.inr (.inr (.inr (.inl ⟨h.1,a h.2.1,h.2.2⟩))))))
 ·exact .inr (.inr (.inr (.inr (.inr (.inr (.inr (.inl ⟨h.1,a h.2.1,h.2.2⟩)))))))
 ·exact .inr (.inr (.inr (.inr (.inr (.inr (.inr (.inr h)))))))
theorem Cw(h:BP w B L)(hs:B.step=0):F3 w L:=by
 unfold BP at h;rcases h with h|h|h|h|h|h|h|h|h
 ·exact h.2
 all_goals(exfalso;have:=h.1;omega)
theorem Gs(h:BP w B L)(hs:5<=B.step/\B.step<=8):
 (tc w B=false/\BP (jh w B) (f6 w B) L/\5<=(f6 w B).step/\(f6 w B).step<=8)\/
 (tc w B=true/\(f6 w B).step=0/\(f6 w B).Su=rx L/\BP (jh w B) (f6 w B) L.tail):=by
 obtain⟨st,x,g,Su⟩:=B;unfold BP at h;simp only at hs h;rcases h with h|h|h|h|h|h|h|h|h
 ·omega
 ·obtain⟨rfl,b⟩:=h;by_cases a:w.bf=0
  ·right;have e:L=[]:=by
    cases L with
    |nil=>rfl
    |cons y r=>
     have h2:w.bf=(y:Int)+1:=b.hd;omega
   subst e;refine⟨by unfold tc;simp[a],by unfold f6;simp[a],by unfold f6;simp[a,rx],.inl ⟨by unfold f6;simp[a],b⟩⟩
  ·left;cases L with
   |nil=>exact am b.hd a
   |cons y r=>
    have f:w.bf=(y:Int)+1:=b.hd;refine⟨by unfold tc;simp[a],.inr (.inr (.inl ⟨by unfold f6;simp[a],b,y,r,rfl,by unfold f6;simp[f];rw[ac aO]⟩)),by unfold f6;simp[a],by unfold f6;simp[a]⟩
 ·obtain⟨rfl,b,y,r,rfl,rfl⟩:=h;left;refine⟨by unfold tc;simp,.inr (.inr (.inr (.inl ⟨by unfold f6;simp,b,y,r,rfl,by unfold f6;simp,by unfold f6 jh;simp⟩))),by unfold f6;simp,by unfold f6;simp⟩
 ·obtain⟨rfl,b,y,r,rfl,rfl,rfl⟩:=h;have c:=b.ln.lone;by_cases hn:w.lk y=0
  ·left;have d:r=[]:=by
    cases r with
    |nil=>rfl
    |cons q r=>
     have h2:w.lk y=(q:Int)+1:=c;omega
   subst d;refine⟨by unfold tc;simp[hn],.inr (.inr (.inr (.inr (.inl ⟨by unfold f6;simp[hn],y,rfl,by unfold f6;simp[hn],by unfold jh;simp[hn]⟩)))),by unfold f6;simp[hn],by unfold f6;simp[hn]⟩
  ·right;refine⟨by unfold tc;simp[hn],by unfold f6;simp[hn],by unfold f6;simp[hn,rx],.inl ⟨by unfold f6;simp[hn],?_⟩⟩;cases r with
   |nil=>exact am c hn
   |cons q r=>
    exact⟨by unfold jh;simpa using c,by unfold jh;simp;exact b.la,by unfold jh;simpa using b.ln.2⟩
 ·obtain⟨rfl,y,rfl,rfl,a⟩:=h;right;exact⟨by unfold tc;simp,by unfold f6;simp,by unfold f6;simp[rx],.inl ⟨by unfold f6;simp,by unfold jh;simp;exact a,by unfold jh;simp[qf],trivial⟩⟩
 ·omega
 ·omega
 ·omega
 ·omega
variable{a:Nat}
theorem JS(h:BP w B L)(hs:1<=B.step/\B.step<=4)(k:B.x=(a:Int)+1)(ha:a∉L)(g:L.Nodup):
 (tc w B=false/\BP (jh w B) (f6 w B) L/\1<=(f6 w B).step/\(f6 w B).step<=4/\(f6 w B).x=(a:Int)+1)\/
 (tc w B=true/\(f6 w B).step=0/\BP (jh w B) (f6 w B) (L++[a])):=by
 obtain⟨st,x,o,Su⟩:=B;unfold BP at h;simp only at hs h k;subst k;have m:((a:Int)+1 - 1).toNat=a:=by omega
 rcases h with h|h|h|h|h|h|h|h|h
 ·omega
 ·omega
 ·omega
 ·omega
 ·omega
 ·obtain⟨rfl,c⟩:=h;left;refine⟨by unfold tc;simp,.inr (.inr (.inr (.inr (.inr (.inr (.inl ⟨by unfold f6;simp,?_,a,by unfold f6;simp,by unfold jh;simp[eJ]⟩)))))),by unfold f6;simp,by unfold f6;simp,by unfold f6;simp⟩;exact⟨by unfold jh;simpa using c.hd,by unfold jh;simpa using c.la,by unfold jh;simp;exact c.ln.congr λj hj=>cG _ _ λe=>ha (e ▸ hj)⟩
 ·obtain⟨rfl,c,b,i,d⟩:=h;obtain rfl:a=b:=by omega
  left;exact⟨by unfold tc;simp,.inr (.inr (.inr (.inr (.inr (.inr (.inr (.inl ⟨by unfold f6;simp,c,a,by unfold f6;simp,d,by unfold f6 jh;simp⟩))))))),by unfold f6;simp,by unfold f6;simp,by unfold f6;simp⟩
 ·obtain⟨rfl,c,b,i,d,rfl⟩:=h;obtain rfl:a=b:=by omega
  left;refine⟨by unfold tc;simp,.inr (.inr (.inr (.inr (.inr (.inr (.inr (.inr ⟨by unfold f6;simp,a,by unfold f6;simp,?_⟩))))))),by unfold f6;simp,by unfold f6;simp,by unfold f6;simp⟩;by_cases hn:w.bl=0
  ·have f:L=[]:=qC.1 (c.la ▸ hn);subst f;exact⟨by unfold jh;simp[hn,rx],by unfold jh;simp[hn,LQ,d]⟩
  ·have f:L≠[]:=λe=>hn (by rw[c.la,e];rfl);obtain⟨z,n,e⟩:=mu L f;have l:w.bl.toNat - 1=z:=by rw[c.la,e];omega
   refine⟨?_,?_⟩
   ·unfold jh;simp[hn];rw[c.hd];cases L with
    |nil=>exact am rfl f
    |cons y r=>rfl
   ·unfold jh;simp[hn];rw[l];exact LQ.append c.ln g e ha d
 ·obtain⟨rfl,b,i,h1,h2⟩:=h;obtain rfl:a=b:=by omega
  right;exact⟨by unfold tc;simp,by unfold f6;simp,.inl ⟨by unfold f6;simp,by unfold jh;simpa using h1,by unfold jh;simp[kK],by unfold jh;simpa using h2⟩⟩
inductive Ph(w:WV)(B:BK)(d:Int)(S:Nat->Nat->Int)(x:Nat):List Nat->List Nat->List Nat->Prop
 |own (r L:List Nat):(S x 0=10\/S x 0=11\/S x 0=12)->B.step=0->Ph w B d S x (x::r) L []
 |take (r L:List Nat):S x 0=13->5<=B.step/\B.step<=8->(S x 1=0\/∃q r',r=q::r'/\S x 1=(q:Int)+1/\S q 0=5)->Ph w B d S x (x::r) L []
 |tie (q:Nat) (r L:List Nat) (y:Nat):S x 0=14->B.step=0->S x 1=(q:Int)+1->S q 0=5->S x 2=(y:Int)+1->Ph w B d S x (x::q::r) L [y]
 |bare (r L:List Nat) (y:Nat):S x 0=15->B.step=0->S x 2=(y:Int)+1->Ph w B d S x (x::r) L [y]
 |swap (r L:List Nat) (y:Nat):S x 0=16->B.step=0->S x 2=(y:Int)+1->w.nx y=0->Ph w B d S x (x::r) L [y]
 |late (q:Nat) (r L:List Nat) (y:Nat):S x 0=17->B.step=0->S x 2=(y:Int)+1->Ph w B d S x (x::q::r) L [y]
 |call (y:Nat) (r L:List Nat):S x 0=18->B.step=0->S x 2=(y:Int)+1->S y 0=5->w.wt y=1->x≠y->Ph w B d S x (y::r) L []
 |free (r:List Nat):S x 0=19->B.step=0->Ph w B d S x (x::r) [] []
 |wait (q:Nat) (r:List Nat):S x 0=20->B.step=0->Ph w B d S x (x::q::r) [] []
 |second (q:Nat) (r L:List Nat):(S x 0=21\/S x 0=24)->B.step=0->S x 1=(q:Int)+1->S q 0=5->Ph w B d S x (x::q::r) L []
 |SO (q:Nat) (r L:List Nat) (y:Nat):S x 0=22->1<=B.step/\B.step<=4->B.x=(y:Int)+1->d=(q:Int)+1->S q 0=5->w.wt q=1->x≠q->Ph w B d S x (q::r) L [y]
 |skip (q:Nat) (r L:List Nat):S x 0=23->B.step=0->d=(q:Int)+1->S q 0=5->w.wt q=1->x≠q->Ph w B d S x (q::r) L []
structure FZ(w:WV)(B:BK)(S:Nat->Nat->Int)(Q L c:List Nat):Prop where
 c0:c=[]
 l0:Q=[]->L=[]
 hd:∀h r,Q=h::r->S h 0=5/\w.wt h=0
 b0:B.step=0
def F2(w:WV)(B:BK)(d:Int)(S:Nat->Nat->Int)(Q L c:List Nat):Option Nat->Prop
 |none=>FZ w B S Q L c
 |some x=>Ph w B d S x Q L c
structure ff(n:Nat)(w:WV)(B:BK)(d:Int)(S:Nat->Nat->Int)(Q L c:List Nat)(o:Option Nat):Prop where
 core:eA n w S Q L c o
 bp:BP w B L
 ph:F2 w B d S Q L c o
section
variable{n:Nat}{w w':WV}{B B':BK}{d d':Int}{S S':Nat->Nat->Int}{Q Q' L c:List Nat}{o:Option Nat}
variable{x:Nat}
theorem Ph.kept(h:Ph w B d S x Q L c)(a:∀t,S' x t=S x t)(h5:∀q,S q 0=5->S' q 0=5)(hn:∀y∈c,w'.nx y=w.nx y)(f:∀y∈Q,w'.wt y=w.wt y)(z:List Nat):Ph w' B d S' x (Q++z) L c:=by
 cases h with
 |own r _ h1 h2=>exact .own (r++z) L (by rw[a];exact h1) h2
 |take r _ h1 h2 h3=>
  refine .take (r++z) L (by rw[a];exact h1) h2 ?_;rw[a];rcases h3 with h3|⟨q,i,rfl,h4,b⟩
  ·exact .inl h3
  ·exact .inr ⟨q,i++z,rfl,h4,h5 q b⟩
 |tie q r _ y h1 h2 h3 h4 b=>exact .tie q (r++z) L y (by rw[a];exact h1) h2 (by rw[a];exact h3) (h5 q h4) (by rw[a];exact b)
 |bare r _ y h1 h2 h3=>exact .bare (r++z) L y (by rw[a];exact h1) h2 (by rw[a];exact h3)
 |swap r _ y h1 h2 h3 h4=>exact .swap (r++z) L y (by rw[a];exact h1) h2 (by rw[a];exact h3) (by rw[hn y aS];exact h4)
 |late q r _ y h1 h2 h3=>exact .late q (r++z) L y (by rw[a];exact h1) h2 (by rw[a];exact h3)
 |call y r _ h1 h2 h3 h4 b e=>exact .call y (r++z) L (by rw[a];exact h1) h2 (by rw[a];exact h3) (h5 y h4) (by rw[f y aS];exact b) e
 |free r h1 h2=>exact .free (r++z) (by rw[a];exact h1) h2
 |wait q r h1 h2=>exact .wait q (r++z) (by rw[a];exact h1) h2
 |second q r _ h1 h2 h3 h4=>exact .second q (r++z) L (by rw[a];exact h1) h2 (by rw[a];exact h3) (h5 q h4)
 |SO q r _ y h1 h2 h3 h4 b e g=>exact .SO q (r++z) L y (by rw[a];exact h1) h2 h3 h4 (h5 q b) (by rw[f q aS];exact e) g
 |skip q r _ h1 h2 h3 h4 b e=>exact .skip q (r++z) L (by rw[a];exact h1) h2 h3 (h5 q h4) (by rw[f q aS];exact b) e
theorem Ph.ne(h:Ph w B d S x Q L c):Q≠[]:=by cases h<;>simp
theorem FZ.kept(h:FZ w B S Q L c)(h5:∀q,S q 0=5->S' q 0=5)(g:∀y∈Q,w'.wt y=w.wt y)(z:List Nat)(i:Q=[]->z=[]):FZ w' B S' (Q++z) L c:=by
 refine⟨h.c0,λe=>h.l0 (by simp at e;exact e.1),λa r e=>?_,h.b0⟩;cases Q with
 |nil=>rw[i rfl] at e;simp at e
 |cons b q=>
  have f:b=a:=by simpa using(sM e).1
  subst f;have:=h.hd b q rfl;exact⟨h5 b this.1,by rw[g b aS];exact this.2⟩
theorem F2.kept(h:F2 w B d S Q L c o)(b:∀x,o=some x->∀t,S' x t=S x t)(h5:∀q,S q 0=5->S' q 0=5)(hn:∀y∈c,w'.nx y=w.nx y)(a:∀y∈Q,w'.wt y=w.wt y)(z:List Nat)(e:Q=[]->z=[]):F2 w' B d S' (Q++z) L c o:=by
 cases o with
 |none=>exact FZ.kept h h5 a z e
 |some x=>exact Ph.kept h (b x rfl) h5 hn a z
theorem F2.head(h:F2 w B d S Q L c o)(b:∀x,o=some x->10<=S x 0):∀a r,Q=a::r->S a 0≠4:=by
 intro a r e;cases o with
 |none=>have:=(FZ.hd h a r e).1;omega
 |some x=>
  have f:=b x rfl;have h:Ph w B d S x Q L c:=h;subst e;cases h<;>omega
theorem eA.out{j:Nat}(h:eA n w S Q L c o)(h3:S j 0<=3):j∉Q++(L++c)/\o≠some j:=by
 have ho:o≠some j:=λe=>by have:=(h.Rv j e).2.1;omega
 exact⟨λhm=>by have:=h.idle j hm ho;omega,ho⟩
theorem ff.early{j:Nat}{pc:Int}(h:ff n w B d S Q L c o)(hj:j<n)(m:0<=S j 0/\S j 0<=3)(i:0<=pc/\pc<=3)(hn:∀k,k≠j->w'.nx k=w.nx k)(p:∀k,k≠j->w'.wt k=w.wt k)(ht:w'.tl=w.tl)
 (b:w'.bf=w.bf/\w'.bl=w.bl/\w'.lk=w.lk)(f:pc=2->w'.nx j=0)(g:pc=3->w'.nx j=0/\w'.wt j=1):ff n w' B d (aa S j 0 pc) Q L c o:=by
 obtain⟨a,ho⟩:=h.core.out m.2;refine⟨h.core.early hj m i hn p ht f g,h.bp.kept b.1 b.2.1 b.2.2,?_⟩;have:=F2.kept (S':=aa S j 0 pc) (w':=w') h.ph (λx e t=>aj _ _ _ _ (λr=>ho (by rw[e,r]))) (λq s=>by rw[aj _ _ _ _ (λe=>by subst e;omega)];exact s)
  (λy l=>hn y (λe=>a (by subst e;simp[l]))) (λy l=>p y (λe=>a (by subst e;simp[l]))) [] (λ_=>rfl)
 simpa using this
theorem ff.TP{j:Nat}(h:ff n w B d S Q L c o)(hj:j<n)(l:S j 0=3)(ht:w'.tl=(j:Int)+1)(hn:w'.nx=w.nx)(k:w'.wt=w.wt)(b:w'.bf=w.bf/\w'.bl=w.bl/\w'.lk=w.lk):
 (w.tl=0/\Q=[]/\o=none/\ff n w' B d (aa (aa S j 1 w.tl) j 0 10) [j] L c (some j))\/(w.tl≠0/\Q≠[]/\ff n w' B d (aa (aa S j 1 w.tl) j 0 4) (Q++[j]) L c o):=by
 obtain⟨m,ho⟩:=h.core.out (j:=j) aO;by_cases a:Q=[]
 ·left;subst a;have g:o=none:=by
   cases o with
   |none=>rfl
   |some x=>exact am rfl (Ph.ne h.ph)
  subst g;have i:FZ w B S [] L c:=h.ph;obtain rfl:=i.c0;obtain rfl:=i.l0 rfl;refine⟨h.core.tl,rfl,rfl,h.core.UC hj l ht hn k,h.bp.kept b.1 b.2.1 b.2.2,?_⟩;exact Ph.own [] [] (.inl (ak _ _ _ _)) i.b0
 ·right;have e:w.tl=qf Q:=h.core.tl;rw[e];refine⟨λe=>a (qC.1 e),a,h.core.TP hj l a ht hn k,h.bp.kept b.1 b.2.1 b.2.2,?_⟩;exact F2.kept h.ph (λx e t=>by rw[aj _ _ _ _ (λf=>ho (by rw[e,f])),aj _ _ _ _ (λf=>ho (by rw[e,f]))])
   (λq a=>by
    have e:q≠j:=λe=>by subst e;omega
    rw[aj _ _ _ _ e,aj _ _ _ _ e];exact a) (λy _=>by rw[hn]) (λy _=>by rw[k]) [j] (λe=>am e a)
theorem eA.UX{p:Nat}(h:eA n w S Q L c o)(b:p∈Q):p∉c:=λa=>by
 have:=h.nd;rw[pJ] at this;exact this.2.2 p b p (fc.2 (.inr a)) rfl
theorem ff.link{j:Nat}(h:ff n w B d S Q L c o)(hj:j<n)(f:S j 0=4):
 ∃p,p<n/\S j 1=(p:Int)+1/\∀w':WV,w'.tl=w.tl->w'.nx=lG w.nx p ((j:Int)+1)->w'.wt=w.wt->w'.bf=w.bf/\w'.bl=w.bl/\w'.lk=w.lk->ff n w' B d (aa S j 0 5) Q L c o:=by
 have l:=F2.head h.ph (λx e=>(h.core.Rv x e).2.1);obtain⟨p,z,ha,v⟩:=h.core.link hj f l;have hm:=h.core.mem j hj (.inl f);have b:j∈Q:=by
  rcases fc.1 hm with hm|hm
  ·exact hm
  ·have:=h.core.RS j hm;omega
 have ho:o≠some j:=λe=>by have:=(h.core.Rv j e).2.1;omega
 refine⟨p,z,ha,λw' ht hn m g=>⟨v w' ht hn m,h.bp.kept g.1 g.2.1 g.2.2,?_⟩⟩;have k:p∉c:=by
  obtain⟨D,i,_,u,_,_⟩:=h.core.ql.link (pJ.1 h.core.nd).1 (by
   cases Q with
   |nil=>simp at b
   |cons a r=>
    rcases kq.1 b with e|e
    ·exact am f (by rw[e];exact l a r rfl)
    ·exact e) f
  obtain rfl:D=p:=by omega
  exact h.core.UX i
 have:=F2.kept (S':=aa S j 0 5) (w':=w') h.ph (λx e t=>aj _ _ _ _ (λs=>ho (by rw[e,s]))) (λq A=>by rw[aj _ _ _ _ (λe=>by subst e;omega)];exact A)
  (λy C=>by rw[hn,cG _ _ (λe=>k (by subst e;exact C))]) (λy _=>by rw[m]) [] (λ_=>rfl)
 simpa using this
theorem ff.enter{j:Nat}(h:ff n w B d S Q L c o)(hj:j<n)(k:S j 0=5)(q:w.wt j=0):
 o=none/\(∃r,Q=j::r)/\∀w':WV,w'.tl=w.tl->w'.nx=w.nx->w'.wt=w.wt->w'.bf=w.bf/\w'.bl=w.bl/\w'.lk=w.lk->ff n w' B d (aa S j 0 10) Q L c (some j):=by
 have hm:=h.core.mem j hj (.inr k);have b:j∉Q.tail++(L++c):=λhm=>by have:=h.core.w1 j hm;omega
 have l:∃r,Q=j::r:=by
  cases Q with
  |nil=>exact am (by simpa using hm) b
  |cons a r=>
   by_cases e:j=a
   ·exact⟨r,by rw[e]⟩
   ·exact am (by simp at hm⊢;grind) b
 obtain⟨r,rfl⟩:=l;have i:o=none:=by
  cases o with
  |none=>rfl
  |some x=>
   have f:Ph w B d S x (j::r) L c:=h.ph;have p:=(h.core.Rv x rfl).2.1;cases f<;>omega
 subst i;have f:FZ w B S (j::r) L c:=h.ph;refine⟨rfl,⟨r,rfl⟩,λw' ht hn m g=>⟨h.core.enter k ht hn m,h.bp.kept g.1 g.2.1 g.2.2,?_⟩⟩;obtain rfl:=f.c0;exact Ph.own r L (.inl (ak _ _ _ _)) f.b0
end
section
variable{n:Nat}{w w':WV}{B B':BK}{d d':Int}{S S':Nat->Nat->Int}{Q Q' L c:List Nat}{o:Option Nat}{j:Nat}
theorem ff.TA(h:ff n w B d S Q L c o)(hj:j<n)(a:10<=S j 0):o=some j:=h.core.RG j hj a
theorem yN(S:Nat->Nat->Int)(j:Nat)(t:Nat)(v pc:Int):∀k,k≠j->∀u,aa (aa S j t v) j 0 pc k u=S k u:=λ_ e _=>by rw[aj _ _ _ _ e,aj _ _ _ _ e]
theorem sw(S:Nat->Nat->Int)(j:Nat)(pc:Int):∀k,k≠j->∀u,aa S j 0 pc k u=S k u:=λ_ e _=>aj _ _ _ _ e
theorem ff.t10(h:ff n w B d S Q L c o)(hj:j<n)(b:S j 0=10):ff n w B d (aa S j 0 11) Q L c (some j):=by
 obtain rfl:=h.TA hj aO;refine⟨h.core.own (sw S j 11) (by rw[ak];omega) rfl rfl rfl,h.bp,?_⟩;have a:Ph w B d S j Q L c:=h.ph;show Ph w B d _ j Q L c;cases a
 case own r h1 h2=>exact .own r L (.inr (.inl (ak _ _ _ _))) h2
 all_goals omega
theorem ff.t11(h:ff n w B d S Q L c o)(hj:j<n)(b:S j 0=11)(v:Int):ff n w B d (aa (aa S j 3 v) j 0 12) Q L c (some j):=by
 obtain rfl:=h.TA hj aO;refine⟨h.core.own (yN S j 3 v 12) (by rw[ak];omega) rfl rfl rfl,h.bp,?_⟩;have a:Ph w B d S j Q L c:=h.ph;show Ph w B d _ j Q L c;cases a
 case own r h1 h2=>exact .own r L (.inr (.inr (ak _ _ _ _))) h2
 all_goals omega
theorem ff.t12(h:ff n w B d S Q L c o)(hj:j<n)(k:S j 0=12):
 B.step=0/\(w.nx j≠0->ff n w B d (aa (aa S j 1 (w.nx j)) j 0 21) Q L c (some j))/\ff n w ⟨5,1,B.n,B.Su⟩ d (aa (aa S j 1 (w.nx j)) j 0 13) Q L c (some j):=by
 obtain rfl:=h.TA hj aO;have g:Ph w B d S j Q L c:=h.ph;have i:=h.core.Rv j rfl;cases g
 case own r h1 h2=>
  have a:∀q,q∈r->q≠j:=λq b e=>i.2.2.1 (by rw[<-e];simpa using b);refine⟨h2,λhn=>⟨h.core.own (yN S j 1 _ 21) (by rw[ak];omega) rfl rfl rfl,h.bp,?_⟩,⟨h.core.own (yN S j 1 _ 13) (by rw[ak];omega) rfl rfl rfl,.inr (.inl ⟨rfl,Cw h.bp h2⟩),?_⟩⟩
  ·obtain⟨q,f,rfl,b,h5⟩:=h.core.ql.second hn;exact Ph.second q f L (.inl (ak _ _ _ _)) h2 (by rw[bZ _ _ _ _ aO,ak];exact b) (by rw[yN S j 1 _ 21 q (a q aS)];exact h5)
  ·refine Ph.take r L (ak _ _ _ _) aS ?_;rw[bZ _ _ _ _ aO,ak];by_cases hn:w.nx j=0
   ·exact .inl hn
   ·obtain⟨q,f,rfl,b,h5⟩:=h.core.ql.second hn;exact .inr ⟨q,f,rfl,b,by rw[yN S j 1 _ 13 q (a q aS)];exact h5⟩
 all_goals omega
theorem vA(w:WV)(B:BK):(jh w B).tl=w.tl/\(jh w B).nx=w.nx/\(jh w B).wt=w.wt:=by
 unfold jh;(repeat' split)<;>exact⟨rfl,rfl,rfl⟩
theorem eA.perm{e c':List Nat}(h:eA n w S Q L c o)(l:(e++c').Perm (L++c)):eA n w S Q e c' o:=by
 have hm:∀k,k∈e++c'↔k∈L++c:=λk=>l.mem_iff;have b:∀k,k∈Q++(e++c')↔k∈Q++(L++c):=λk=>by rw[fc,hm,<-fc]
 have i:∀k,k∈Q.tail++(e++c')↔k∈Q.tail++(L++c):=λk=>by rw[fc,hm,<-fc]
 exact{
  nd:=(l.append_left Q).nodup_iff.2 h.nd,lt:=λk a=>h.lt k ((b k).1 a),mem:=λk a f=>(b k).2 (h.mem k a f),idle:=λk a f=>h.idle k ((b k).1 a) f,RS:=λk a=>h.RS k ((hm k).1 a),
   RG:=h.RG,Rv:=λx g=>⟨(h.Rv x g).1,(h.Rv x g).2.1,(h.Rv x g).2.2.1,λf=>(h.Rv x g).2.2.2 ((hm x).1 f)⟩,RC:=h.RC,tl:=h.tl,ql:=h.ql,w1:=λk a=>h.w1 k ((i k).1 a),p2:=h.p2,p3:=h.p3}
theorem ff.t13(h:ff n w B d S Q L c o)(hj:j<n)(t:S j 0=13):
 (tc w B=false/\ff n (jh w B) (f6 w B) d S Q L c (some j))\/
 (tc w B=true/\∃s c',ff n (jh w B) (f6 w B) d (aa (aa S j 2 (f6 w B).Su) j 0 (Bg (f6 w B).Su (S j 1))) Q s c' (some j)):=by
 obtain rfl:=h.TA hj aO;have x:Ph w B d S j Q L c:=h.ph;have m:=h.core.Rv j rfl;obtain⟨f,g,i⟩:=vA w B;cases x
 case take r h1 h2 h3=>
  have b:∀q,q∈r->q≠j:=λq z e=>m.2.2.1 (by rw[<-e];simpa using z);rcases Gs h.bp h2 with⟨k,a,hs⟩|⟨k,hs,u,a⟩
  ·exact .inl ⟨k,h.core.own (λ_ _ _=>rfl) aO f g i,a,Ph.take r L t hs h3⟩
  ·right;refine⟨k,?_⟩;rw[u];have v:=m.2.2.2;cases L with
   |nil=>
    refine⟨[],[],h.core.own (yN S j 2 _ _) ?_ f g i,a,?_⟩
    ·rw[ak];unfold Bg rx;split<;>(try split)<;>omega
    ·show Ph _ _ _ _ _ _ _ _;unfold Bg rx;rw[ad rfl];rcases h3 with h3|⟨q,l,rfl,h4,h5⟩
     ·rw[ad h3];exact Ph.free r (ak _ _ _ _) hs
     ·rw[ac aO];exact Ph.second q l [] (.inl (ak _ _ _ _)) hs (by rw[bZ _ _ _ _ aO,bZ _ _ _ _ aO];exact h4) (by rw[yN S j 2 _ _ q (b q aS)];exact h5)
   |cons y L=>
    have p:rx (y::L)=(y:Int)+1:=rfl;refine⟨L,[y],eA.own (h.core.perm ?_) (yN S j 2 _ _) ?_ f g i,a,?_⟩
    ·simp
    ·rw[ak,p];unfold Bg;rw[ac aO];split<;>omega
    ·show Ph _ _ _ _ _ _ _ _;rw[p];unfold Bg;rw[ac aO];rcases h3 with h3|⟨q,l,rfl,h4,h5⟩
     ·rw[ad h3];exact Ph.bare r L y (ak _ _ _ _) hs (by rw[bZ _ _ _ _ aO,ak])
     ·rw[ac aO];exact Ph.tie q l L y (ak _ _ _ _) hs (by rw[bZ _ _ _ _ aO,bZ _ _ _ _ aO];exact h4) (by rw[yN S j 2 _ _ q (b q aS)];exact h5) (by rw[bZ _ _ _ _ aO,ak])
 all_goals omega
theorem eA.inc{y:Nat}(h:eA n w S Q L [y] o):y<n/\S y 0=5/\w.wt y=1/\y∉Q/\y∉L/\o≠some y:=by
 have a:=h.nd;rw[pJ] at a;refine⟨h.lt y aS,h.RS y aS,h.w1 y aS,λhm=>a.2.2 y hm y aS rfl,λhm=>?_,λe=>(h.Rv y e).2.2.2 aS⟩;have:=a.2.1;rw[pJ] at this;exact this.2.2 y hm y aS rfl
theorem ff.t14(h:ff n w B d S Q L c o)(hj:j<n)(p:S j 0=14):
 ∃y,y<n/\S j 2=(y:Int)+1/\∃Q' c',ff n {w with nx:=lG w.nx y (S j 1)} B d (aa S j 0 18) Q' L c' (some j):=by
 obtain rfl:=h.TA hj aO;have g:Ph w B d S j Q L c:=h.ph;have s:=h.core.Rv j rfl;cases g
 case tie q r y h1 h2 h3 h4 h5=>
  obtain⟨i,l,m,b,t,u⟩:=h.core.inc;have f:j≠y:=λe=>b (by simp[e]);have v:q≠y:=λe=>b (by simp[e]);refine⟨y,i,h5,y::q::r,[],?_,h.bp.kept rfl rfl rfl,?_⟩
  ·refine eA.re h.core (Q0:=q::r) (.inl rfl) ?_ (sw S j 18) (.inl ⟨rfl,by rw[ak];omega,by rw[ak];omega⟩) (λk a=>h.core.RS k (by simp at a⊢;exact .inl a)) h.core.tl ?_ (λk a=>h.core.w1 k (by simp at a⊢;grind)) (λk a=>⟨cG _ _ (λe=>a (by simp[e])),rfl⟩)
   ·have:(y::q::r++(L++[])).Perm ((q::r++L)++[y]):=by
     have:=FE (l₁:=[y]) (l₂:=q::r++L);simpa using this
    simpa using this
   ·refine⟨.inr ⟨h4,?_⟩,h.core.ql.tail.congr (λk a=>cG _ _ (λe=>b (by rw[<-e];exact pI _ a))) (λk _=>⟨rfl,rfl⟩)⟩;show lG w.nx y (S j 1) y=_;rw[eJ];exact h3
  ·refine Ph.call y (q::r) L (ak _ _ _ _) h2 (by rw[bZ _ _ _ _ aO];exact h5) (by rw[sw S j 18 y f.symm];exact l) m f
 all_goals omega
theorem ff.t15(h:ff n w B d S Q L c o)(hj:j<n)(m:S j 0=15):
 ∃y,y<n/\S j 2=(y:Int)+1/\ff n {w with nx:=lG w.nx y 0} B d (aa S j 0 16) Q L c (some j):=by
 obtain rfl:=h.TA hj aO;have i:Ph w B d S j Q L c:=h.ph;have p:=h.core.Rv j rfl;cases i
 case bare r y h1 h2 h3=>
  obtain⟨l,q,s,f,t,u⟩:=h.core.inc;have b:=h.core.own (S':=aa S j 0 16) (w':=w) (sw S j 16) (by rw[ak];omega) rfl rfl rfl;have g:y≠j:=λe=>f (by simp[e]);refine⟨y,l,h3,?_,h.bp.kept rfl rfl rfl,Ph.swap r L y (ak _ _ _ _) h2 (by rw[bZ _ _ _ _ aO];exact h3) (eJ _ _ _)⟩;refine{b with ql:=b.ql.congr (λk a=>cG _ _ (λe=>f (by rw[<-e];exact a))) (λk _=>⟨rfl,rfl⟩),p2:=λk a h2=>?_,p3:=λk a h2=>?_}
  ·have e:k≠y:=λe=>by subst e;rw[sw S j 16 k g] at h2;omega
   show lG w.nx y 0 k=0;rw[cG _ _ e];exact b.p2 k a h2
  ·have e:k≠y:=λe=>by subst e;rw[sw S j 16 k g] at h2;omega
   show lG w.nx y 0 k=0/\_;rw[cG _ _ e];exact b.p3 k a h2
 all_goals omega
theorem ff.t16(h:ff n w B d S Q L c o)(hj:j<n)(p:S j 0=16):
 (w.tl=(j:Int)+1->∃Q' c',ff n {w with tl:=S j 2} B d (aa S j 0 18) Q' L c' (some j))/\(w.tl≠(j:Int)+1->ff n w B d (aa S j 0 17) Q L c (some j)):=by
 obtain rfl:=h.TA hj aO;have f:Ph w B d S j Q L c:=h.ph;have s:=h.core.Rv j rfl;cases f
 case swap r y h1 h2 h3 h4=>
  obtain⟨t,i,l,m,u,v⟩:=h.core.inc;have b:j≠y:=λe=>m (by simp[e]);refine⟨λht=>?_,λht=>?_⟩
  ·have g:r=[]:=qD (pJ.1 h.core.nd).1 (by rw[<-h.core.tl];exact ht);subst g;refine⟨[y],[],?_,h.bp.kept rfl rfl rfl,Ph.call y [] L (ak _ _ _ _) h2 (by rw[bZ _ _ _ _ aO];exact h3) (by rw[sw S j 18 y b.symm];exact i) l b⟩;refine eA.re h.core (Q0:=[]) (.inl rfl) ?_ (sw S j 18) (.inl ⟨rfl,by rw[ak];omega,by rw[ak];omega⟩) (λk a=>h.core.RS k (by simp at a⊢;exact .inl a)) h3 h4 (λk a=>h.core.w1 k (by simp at a⊢;exact .inl a)) (λk a=>⟨rfl,rfl⟩);simpa using FE (l₁:=[y]) (l₂:=L)
  ·cases r with
   |nil=>exact am h.core.tl ht
   |cons q r=>exact⟨h.core.own (sw S j 17) (by rw[ak];omega) rfl rfl rfl,h.bp,Ph.late q r L y (ak _ _ _ _) h2 (by rw[bZ _ _ _ _ aO];exact h3)⟩
 all_goals omega
theorem ff.t17(h:ff n w B d S Q L c o)(hj:j<n)(l:S j 0=17):
 (w.nx j=0->ff n w B d (aa (aa S j 1 0) j 0 17) Q L c (some j))/\(w.nx j≠0->ff n w B d (aa (aa S j 1 (w.nx j)) j 0 14) Q L c (some j)):=by
 obtain rfl:=h.TA hj aO;have b:Ph w B d S j Q L c:=h.ph;have g:=h.core.Rv j rfl;cases b
 case late q r y h1 h2 h3=>
  refine⟨λhn=>⟨h.core.own (yN S j 1 _ 17) (by rw[ak];omega) rfl rfl rfl,h.bp,Ph.late q r L y (ak _ _ _ _) h2 (by rw[bZ _ _ _ _ aO,bZ _ _ _ _ aO];exact h3)⟩,λhn=>⟨h.core.own (yN S j 1 _ 14) (by rw[ak];omega) rfl rfl rfl,h.bp,?_⟩⟩;obtain⟨i,k,e,f,h5⟩:=h.core.ql.second hn;obtain⟨rfl,rfl⟩:q=i/\r=k:=by simpa using e
  have a:q≠j:=λe=>g.2.2.1 (by simp[e]);exact Ph.tie q r L y (ak _ _ _ _) h2 (by rw[bZ _ _ _ _ aO,ak];exact f) (by rw[yN S j 1 _ 14 q a];exact h5) (by rw[bZ _ _ _ _ aO,bZ _ _ _ _ aO];exact h3)
 all_goals omega
theorem ff.t18(h:ff n w B d S Q L c o)(hj:j<n)(s:S j 0=18):
 ∃y,y<n/\S j 2=(y:Int)+1/\ff n {w with wt:=lG w.wt y 0} B d (aa S j 0 0) Q L c none:=by
 obtain rfl:=h.TA hj aO;have p:Ph w B d S j Q L c:=h.ph;have q:=h.core.Rv j rfl;cases p
 case call y r h1 h2 h3 h4 h5 l=>
  have f:j∉y::r:=λhm=>by
   rcases kq.1 hm with e|hm
   ·exact l e
   ·exact q.2.2.1 hm
  have g:=kY.1 (show(y::(r++(L++[]))).Nodup from h.core.nd);have i:=h.core.lt y aS;refine⟨y,i,h3,?_,h.bp.kept rfl rfl rfl,⟨rfl,λe=>by simp at e,λa t e=>?_,h2⟩⟩
  ·refine eA.re h.core (Q0:=y::r) (.inr ⟨rfl,f⟩) (Ak _) (sw S j 0) (.inr ⟨rfl,ak _ _ _ _⟩) h.core.RS h.core.tl h.core.ql (λk b=>?_) (λk b=>⟨rfl,cG _ _ (λe=>b (by simp[e]))⟩);show lG w.wt y 0 k=1;rw[cG _ _ (λe=>g.1 (by rw[<-e];simpa using b))];exact h.core.w1 k b
  ·have m:y=a:=by simpa using(sM e).1
   subst m;exact⟨by rw[sw S j 0 y (λe=>l e.symm)];exact h4,eJ _ _ _⟩
 all_goals omega
theorem ff.t19(h:ff n w B d S Q L c o)(hj:j<n)(g:S j 0=19):
 (w.tl=(j:Int)+1->ff n {w with tl:=0} B d (aa S j 0 0) [] [] [] none)/\(w.tl≠(j:Int)+1->ff n w B d (aa S j 0 20) Q L c (some j)):=by
 obtain rfl:=h.TA hj aO;have b:Ph w B d S j Q L c:=h.ph;have l:=h.core.Rv j rfl;cases b
 case free r h1 h2=>
  refine⟨λht=>?_,λht=>?_⟩
  ·have f:r=[]:=qD (pJ.1 h.core.nd).1 (by rw[<-h.core.tl];exact ht);subst f;refine⟨?_,h.bp.kept rfl rfl rfl,⟨rfl,λ_=>rfl,λa m e=>by simp at e,h2⟩⟩;exact eA.re h.core (Q0:=[]) (.inl rfl) (Ak _) (sw S j 0) (.inr ⟨rfl,ak _ _ _ _⟩) aS rfl trivial aS (λk i=>⟨rfl,rfl⟩)
  ·cases r with
   |nil=>exact am h.core.tl ht
   |cons q r=>exact⟨h.core.own (sw S j 20) (by rw[ak];omega) rfl rfl rfl,h.bp,Ph.wait q r (ak _ _ _ _) h2⟩
 all_goals omega
theorem ff.t20(h:ff n w B d S Q L c o)(hj:j<n)(l:S j 0=20):
 (w.nx j=0->ff n w B d (aa (aa S j 1 0) j 0 20) Q L c (some j))/\(w.nx j≠0->ff n w B d (aa (aa S j 1 (w.nx j)) j 0 21) Q L c (some j)):=by
 obtain rfl:=h.TA hj aO;have b:Ph w B d S j Q L c:=h.ph;have g:=h.core.Rv j rfl;cases b
 case wait q r h1 h2=>
  refine⟨λhn=>⟨h.core.own (yN S j 1 _ 20) (by rw[ak];omega) rfl rfl rfl,h.bp,Ph.wait q r (ak _ _ _ _) h2⟩,λhn=>⟨h.core.own (yN S j 1 _ 21) (by rw[ak];omega) rfl rfl rfl,h.bp,?_⟩⟩;obtain⟨i,k,e,f,h5⟩:=h.core.ql.second hn;obtain⟨rfl,rfl⟩:q=i/\r=k:=by simpa using e
  have a:q≠j:=λe=>g.2.2.1 (by simp[e]);exact Ph.second q r [] (.inl (ak _ _ _ _)) h2 (by rw[bZ _ _ _ _ aO,ak];exact f) (by rw[yN S j 1 _ 21 q a];exact h5)
 all_goals omega
theorem ff.t21(h:ff n w B d S Q L c o)(hj:j<n)(u:S j 0=21):
 ∃q,q<n/\S j 1=(q:Int)+1/\B.step=0/\(w.nx q=0->ff n w B 0 (aa S j 0 24) Q L c (some j))/\
  (w.nx q≠0->∃Q' c',ff n w ⟨1,S j 1,B.n,B.Su⟩ (w.nx q) (aa S j 0 22) Q' L c' (some j)):=by
 obtain rfl:=h.TA hj aO;have t:Ph w B d S j Q L c:=h.ph;have m:=h.core.Rv j rfl;cases t
 case second q r h1 h2 h3 h4=>
  have l:=h.core.lt q aS;have i:q≠j:=λe=>m.2.2.1 (by simp[e]);refine⟨q,l,h3,h2,λhn=>⟨h.core.own (sw S j 24) (by rw[ak];omega) rfl rfl rfl,h.bp,Ph.second q r L (.inr (ak _ _ _ _)) h2 (by rw[bZ _ _ _ _ aO];exact h3) (by rw[sw S j 24 q i];exact h4)⟩,λhn=>?_⟩;obtain⟨b,g,rfl,p,h5⟩:=h.core.ql.tail.second hn;have s:=(pJ.1 h.core.nd).1;have f:b≠j:=λe=>m.2.2.1 (by simp[e]);refine⟨b::g,[q],?_,.inr (.inr (.inr (.inr (.inr (.inl ⟨rfl,Cw h.bp h2⟩))))),?_⟩
  ·refine eA.re h.core (Q0:=q::b::g) (.inl rfl) ?_ (sw S j 22) (.inl ⟨rfl,by rw[ak];omega,by rw[ak];omega⟩) (λk a=>?_) h.core.tl h.core.ql.tail.tail (λk a=>h.core.w1 k (by simp at a⊢;grind)) (λk a=>⟨rfl,rfl⟩)
   ·have:=FE (l₁:=b::g++L) (l₂:=[q]);simpa using this
   ·rcases fc.1 a with a|a
    ·exact h.core.RS k (by simp[a])
    ·have:k=q:=by simpa using a
     subst this;exact h4
  ·exact Ph.SO b g L q (ak _ _ _ _) ⟨by simp,by simp⟩ h3 p (by rw[sw S j 22 b f];exact h5) (h.core.w1 b aS) f.symm
 all_goals omega
theorem ff.t22(h:ff n w B d S Q L c o)(hj:j<n)(v:S j 0=22):
 (tc w B=false/\ff n (jh w B) (f6 w B) d S Q L c (some j))\/
 (tc w B=true/\∃u c',ff n (jh w B) (f6 w B) d (aa S j 0 23) Q u c' (some j)):=by
 obtain rfl:=h.TA hj aO;have x:Ph w B d S j Q L c:=h.ph;have A:=h.core.Rv j rfl;obtain⟨p,s,b⟩:=vA w B;cases x
 case SO q r y h1 h2 h3 h4 h5 t f=>
  obtain⟨C,D,E,F,z,G⟩:=h.core.inc;have i:L.Nodup:=(pJ.1 (pJ.1 h.core.nd).2.1).1;rcases JS h.bp h2 h3 z i with⟨g,a,k,l,m⟩|⟨g,hs,a⟩
  ·exact .inl ⟨g,h.core.own (λ_ _ _=>rfl) aO p s b,a,Ph.SO q r L y v ⟨k,l⟩ m h4 h5 (by rw[b];exact t) f⟩
  ·refine .inr ⟨g,L++[y],[],eA.own (h.core.perm aS) (sw S j 23) (by rw[ak];omega) p s b,a,?_⟩;exact Ph.skip q r _ (ak _ _ _ _) hs h4 (by rw[sw S j 23 q (λe=>f e.symm)];exact h5) (by rw[b];exact t) f
 all_goals omega
theorem ff.t23(h:ff n w B d S Q L c o)(hj:j<n)(s:S j 0=23):
 ∃y,y<n/\d=(y:Int)+1/\ff n {w with wt:=lG w.wt y 0} B d (aa S j 0 0) Q L c none:=by
 obtain rfl:=h.TA hj aO;have p:Ph w B d S j Q L c:=h.ph;have q:=h.core.Rv j rfl;cases p
 case skip y r h1 h2 h3 h4 h5 l=>
  have f:j∉y::r:=λhm=>by
   rcases kq.1 hm with e|hm
   ·exact l e
   ·exact q.2.2.1 hm
  have g:=kY.1 (show(y::(r++(L++[]))).Nodup from h.core.nd);have i:=h.core.lt y aS;refine⟨y,i,h3,?_,h.bp.kept rfl rfl rfl,⟨rfl,λe=>by simp at e,λa t e=>?_,h2⟩⟩
  ·refine eA.re h.core (Q0:=y::r) (.inr ⟨rfl,f⟩) (Ak _) (sw S j 0) (.inr ⟨rfl,ak _ _ _ _⟩) h.core.RS h.core.tl h.core.ql (λk b=>?_) (λk b=>⟨rfl,cG _ _ (λe=>b (by simp[e]))⟩);show lG w.wt y 0 k=1;rw[cG _ _ (λe=>g.1 (by rw[<-e];simpa using b))];exact h.core.w1 k b
  ·have m:y=a:=by simpa using(sM e).1
   subst m;exact⟨by rw[sw S j 0 y (λe=>l e.symm)];exact h4,eJ _ _ _⟩
 all_goals omega
theorem ff.t24(h:ff n w B d S Q L c o)(hj:j<n)(s:S j 0=24):
 ∃q,q<n/\S j 1=(q:Int)+1/\ff n {w with wt:=lG w.wt q 0} B d (aa S j 0 0) Q.tail L c none:=by
 obtain rfl:=h.TA hj aO;have m:Ph w B d S j Q L c:=h.ph;have p:=h.core.Rv j rfl;cases m
 case second q r h1 h2 h3 h4=>
  have i:=h.core.lt q aS;have g:q≠j:=λe=>p.2.2.1 (by simp[e]);have f:=kY.1 (kY.1 (show(j::q::(r++(L++[]))).Nodup from h.core.nd)).2;refine⟨q,i,h3,?_,h.bp.kept rfl rfl rfl,⟨rfl,λe=>by simp at e,λa t e=>?_,h2⟩⟩
  ·refine eA.re h.core (Q0:=q::r) (.inl rfl) (Ak _) (sw S j 0) (.inr ⟨rfl,ak _ _ _ _⟩) h.core.RS h.core.tl h.core.ql.tail (λk b=>?_) (λk b=>⟨rfl,cG _ _ (λe=>b (by simp[e]))⟩);show lG w.wt q 0 k=1;rw[cG _ _ (λe=>f.1 (by rw[<-e];simpa using b))];exact h.core.w1 k (by simp at b⊢;grind)
  ·have l:q=a:=by simpa using(sM e).1
   subst l;exact⟨by rw[sw S j 0 q g];exact h4,eJ _ _ _⟩
 all_goals omega
end
structure oH(tail first n:Nat)(A:AR):Prop where
 fe:first=tail+2+2*n
 tk:A.taken=first+1+n
 ln:A.taken<=A.ws.length
 t1:1<=tail
 tb:tail<=4000
 nb:n<=32
def wv(tail first n:Nat)(A:AR):WV:=
 {tl:=A.get tail,nx:=λj=>if j<n then A.get (tail+2*((j:Int)+1)) else 0,wt:=λj=>if j<n then A.get (tail+2*((j:Int)+1)+1) else 0,bf:=A.get first,bl:=A.get ((first:Int)+1),lk:=λj=>if j<n then A.get ((first:Int)+2+j) else 0}
section
variable{tail first n:Nat}{A:AR}{j:Nat}
theorem wy(hl:oH tail first n A)(hj:j<n):dD tail ((j:Int)+1)=tail+2*((j:Int)+1):=by have:=hl.tb;have:=hl.nb;unfold dD wrap64;omega
theorem wz(hl:oH tail first n A)(hj:j<n):i4 tail ((j:Int)+1)=tail+2*((j:Int)+1)+1:=by have:=hl.tb;have:=hl.nb;unfold i4 wrap64;omega
theorem rX(hl:oH tail first n A)(hj:j<n):jP first ((j:Int)+1)=(first:Int)+2+j:=by have:=hl.tb;have:=hl.nb;have:=hl.fe;unfold jP wrap64;omega
theorem uF(A:AR)(k i:Int)(wr:Bool)(v x:Int)(hi:A.has i=true)(hl:A.taken<=A.ws.length):((A.note k i wr).put i v).get x=if x=i then v else A.get x:=by
 have c:1<=i/\i<=(A.taken:Int):=by unfold AR.has at hi;simpa using hi
 show(if A.has x then(A.ws.set (i.toNat - 1) v)[x.toNat - 1]?.getD 0 else 0)=_;by_cases hj:x=i
 ·subst hj;rw[hi,ad rfl,ad rfl,s7,ad rfl,ad aO];rfl
 ·rw[ac hj];unfold AR.get;cases a:A.has x with
  |false=>rfl
  |true=>
   have b:1<=x/\x<=(A.taken:Int):=by unfold AR.has at a;simpa using a
   rw[ad rfl,ad rfl,s7,ac aO]
structure p7(A A':AR):Prop where
 tk:A'.taken=A.taken
 ln:A'.ws.length=A.ws.length
 op:A'.ops=A.ops\/A'.ops=wrap64 (A.ops+1)
variable{a:AR}
theorem p7.lay(h:p7 A a)(hl:oH tail first n A):oH tail first n a:={hl with tk:=by rw[h.tk];exact hl.tk,ln:=by rw[h.tk,h.ln];exact hl.ln}
theorem mw(A:AR):p7 A A:=⟨rfl,rfl,.inl rfl⟩
theorem zQ(A:AR)(k i:Int)(wr:Bool):p7 A (A.note k i wr):=⟨rfl,rfl,.inr rfl⟩
theorem uH(A:AR)(k i:Int)(wr:Bool)(v:Int):p7 A ((A.note k i wr).put i v):=⟨rfl,by unfold AR.put AR.note;simp,.inr rfl⟩
theorem fs(A:AR)(i:Int):p7 A (A.load i):=by unfold AR.load;split;exact zQ _ _ _ _;exact mw _
theorem fy(A:AR)(i v:Int):p7 A (A.store i v):=by unfold AR.store;split;exact uH _ _ _ _ _;exact mw _
theorem wH(A:AR)(i v:Int):p7 A (A.swap i v):=by unfold AR.swap;split;exact uH _ _ _ _ _;exact mw _
theorem Ih(A:AR)(i v:Int):p7 A (A.add i v):=by unfold AR.add;split;exact uH _ _ _ _ _;exact mw _
theorem qE(A:AR)(i o v:Int):p7 A (A.Sd i o v):=by
 unfold AR.Sd;split
 ·split
  ·exact uH _ _ _ _ _
  ·exact zQ _ _ _ _
 ·exact mw _
theorem n8(f:Nat)(A:AR)(B:BK):p7 A (ca f A B):=by
 unfold ca
 (repeat' split)<;>first|exact fy _ _ _|exact fs _ _|exact mw _
variable{i:Int}
theorem ut(hl:oH tail first n A)(h1:1<=i)(h2:i<=(first:Int)+1+n):A.has i=true:=by unfold AR.has;rw[hl.tk];simp;omega
theorem nD{a b:WV}(h1:a.tl=b.tl)(h2:∀k,a.nx k=b.nx k)(h3:∀k,a.wt k=b.wt k)(h4:a.bf=b.bf)(h5:a.bl=b.bl)(c:∀k,a.lk k=b.lk k):a=b:=by
 cases a;cases b
 simp only at h1 h2 h3 h4 h5 c;subst h1 h4 h5;obtain rfl:=funext h2;obtain rfl:=funext h3;obtain rfl:=funext c;rfl
theorem Ai(h:∀i,a.get i=A.get i):wv tail first n a=wv tail first n A:=by
 unfold wv;simp only[h]
theorem eo(i:Int):wv tail first n (A.load i)=wv tail first n A:=Ai λx=>(by unfold AR.load;split<;>rfl)
theorem I2(k i:Int)(wr:Bool):wv tail first n (A.note k i wr)=wv tail first n A:=Ai λ_=>rfl
variable{v:Int}
theorem Aj(hl:oH tail first n A)(h:∀i,a.get i=if i=(tail:Int) then v else A.get i):wv tail first n a={wv tail first n A with tl:=v}:=by
 have:=hl.fe;refine nD ?_ (λk=>?_) (λk=>?_) ?_ ?_ (λk=>?_)
 ·show a.get tail=v;rw[h,ad rfl]
 ·show(if k<n then a.get _ else 0)=(if k<n then A.get _ else 0);split;rw[h,ac aO];rfl
 ·show(if k<n then a.get _ else 0)=(if k<n then A.get _ else 0);split;rw[h,ac aO];rfl
 ·show a.get _=A.get _;rw[h,ac aO]
 ·show a.get _=A.get _;rw[h,ac aO]
 ·show(if k<n then a.get _ else 0)=(if k<n then A.get _ else 0);split;rw[h,ac aO];rfl
theorem I1(hl:oH tail first n A)(h:∀i,a.get i=if i=(tail:Int)+1 then v else A.get i):wv tail first n a=wv tail first n A:=by
 have:=hl.fe;refine nD ?_ (λk=>?_) (λk=>?_) ?_ ?_ (λk=>?_)
 ·show a.get tail=_;rw[h,ac aO];rfl
 ·show(if k<n then a.get _ else 0)=(if k<n then A.get _ else 0);split;rw[h,ac aO];rfl
 ·show(if k<n then a.get _ else 0)=(if k<n then A.get _ else 0);split;rw[h,ac aO];rfl
 ·show a.get _=A.get _;rw[h,ac aO]
 ·show a.get _=A.get _;rw[h,ac aO]
 ·show(if k<n then a.get _ else 0)=(if k<n then A.get _ else 0);split;rw[h,ac aO];rfl
theorem I0(hl:oH tail first n A)(hj:j<n)(h:∀i,a.get i=if i=(tail:Int)+2*((j:Int)+1) then v else A.get i):wv tail first n a={wv tail first n A with nx:=lG (wv tail first n A).nx j v}:=by
 have:=hl.fe;refine nD ?_ (λk=>?_) (λk=>?_) ?_ ?_ (λk=>?_)
 ·show a.get tail=_;rw[h,ac aO];rfl
 ·show(if k<n then a.get _ else 0)=lG (wv tail first n A).nx j v k;by_cases e:k=j
  ·subst e;rw[ad hj,eJ,h,ad rfl]
  ·rw[cG _ _ e];show _=(if k<n then A.get _ else 0);split;rw[h,ac aO];rfl
 ·show(if k<n then a.get _ else 0)=(if k<n then A.get _ else 0);split;rw[h,ac aO];rfl
 ·show a.get _=A.get _;rw[h,ac aO]
 ·show a.get _=A.get _;rw[h,ac aO]
 ·show(if k<n then a.get _ else 0)=(if k<n then A.get _ else 0);split;rw[h,ac aO];rfl
theorem I3(hl:oH tail first n A)(hj:j<n)(h:∀i,a.get i=if i=(tail:Int)+2*((j:Int)+1)+1 then v else A.get i):wv tail first n a={wv tail first n A with wt:=lG (wv tail first n A).wt j v}:=by
 have:=hl.fe;refine nD ?_ (λk=>?_) (λk=>?_) ?_ ?_ (λk=>?_)
 ·show a.get tail=_;rw[h,ac aO];rfl
 ·show(if k<n then a.get _ else 0)=(if k<n then A.get _ else 0);split;rw[h,ac aO];rfl
 ·show(if k<n then a.get _ else 0)=lG (wv tail first n A).wt j v k;by_cases e:k=j
  ·subst e;rw[ad hj,eJ,h,ad rfl]
  ·rw[cG _ _ e];show _=(if k<n then A.get _ else 0);split;rw[h,ac aO];rfl
 ·show a.get _=A.get _;rw[h,ac aO]
 ·show a.get _=A.get _;rw[h,ac aO]
 ·show(if k<n then a.get _ else 0)=(if k<n then A.get _ else 0);split;rw[h,ac aO];rfl
theorem JH(hl:oH tail first n A)(h:∀i,a.get i=if i=(first:Int) then v else A.get i):wv tail first n a={wv tail first n A with bf:=v}:=by
 have:=hl.fe;refine nD ?_ (λk=>?_) (λk=>?_) ?_ ?_ (λk=>?_)
 ·show a.get tail=_;rw[h,ac aO];rfl
 ·show(if k<n then a.get _ else 0)=(if k<n then A.get _ else 0);split;rw[h,ac aO];rfl
 ·show(if k<n then a.get _ else 0)=(if k<n then A.get _ else 0);split;rw[h,ac aO];rfl
 ·show a.get _=v;rw[h,ad rfl]
 ·show a.get _=A.get _;rw[h,ac aO]
 ·show(if k<n then a.get _ else 0)=(if k<n then A.get _ else 0);split;rw[h,ac aO];rfl
theorem JI(hl:oH tail first n A)(h:∀i,a.get i=if i=(first:Int)+1 then v else A.get i):wv tail first n a={wv tail first n A with bl:=v}:=by
 have:=hl.fe;refine nD ?_ (λk=>?_) (λk=>?_) ?_ ?_ (λk=>?_)
 ·show a.get tail=_;rw[h,ac aO];rfl
 ·show(if k<n then a.get _ else 0)=(if k<n then A.get _ else 0);split;rw[h,ac aO];rfl
 ·show(if k<n then a.get _ else 0)=(if k<n then A.get _ else 0);split;rw[h,ac aO];rfl
 ·show a.get _=A.get _;rw[h,ac aO]
 ·show a.get _=v;rw[h,ad rfl]
 ·show(if k<n then a.get _ else 0)=(if k<n then A.get _ else 0);split;rw[h,ac aO];rfl
theorem JJ(hl:oH tail first n A)(hj:j<n)(h:∀i,a.get i=if i=(first:Int)+2+j then v else A.get i):wv tail first n a={wv tail first n A with lk:=lG (wv tail first n A).lk j v}:=by
 have:=hl.fe;refine nD ?_ (λk=>?_) (λk=>?_) ?_ ?_ (λk=>?_)
 ·show a.get tail=_;rw[h,ac aO];rfl
 ·show(if k<n then a.get _ else 0)=(if k<n then A.get _ else 0);split;rw[h,ac aO];rfl
 ·show(if k<n then a.get _ else 0)=(if k<n then A.get _ else 0);split;rw[h,ac aO];rfl
 ·show a.get _=A.get _;rw[h,ac aO]
 ·show a.get _=A.get _;rw[h,ac aO]
 ·show(if k<n then a.get _ else 0)=lG (wv tail first n A).lk j v k;by_cases e:k=j
  ·subst e;rw[ad hj,eJ,h,ad rfl]
  ·rw[cG _ _ e];show _=(if k<n then A.get _ else 0);split;rw[h,ac aO];rfl
theorem mi(hl:oH tail first n A)(v:Int)(h1:1<=i)(h2:i<=(first:Int)+1+n):∀x,(A.store i v).get x=if x=i then v else A.get x:=λx=>by
 have hi:=ut hl h1 h2;have e:A.store i v=(A.note 2 i true).put i v:=by unfold AR.store;rw[hi,ad rfl]
 rw[e];exact uF A 2 i true v x hi hl.ln
theorem qN(hl:oH tail first n A)(hj:j<n)(v:Int):wv tail first n (A.store (dD tail ((j:Int)+1)) v)={wv tail first n A with nx:=lG (wv tail first n A).nx j v}:=by
 have:=hl.fe;rw[wy hl hj];exact I0 hl hj (mi hl v aO aO)
theorem qO(hl:oH tail first n A)(hj:j<n)(v:Int):wv tail first n (A.store (i4 tail ((j:Int)+1)) v)={wv tail first n A with wt:=lG (wv tail first n A).wt j v}:=by
 have:=hl.fe;rw[wz hl hj];exact I3 hl hj (mi hl v aO aO)
theorem l6(hl:oH tail first n A)(hj:j<n):A.get (dD tail ((j:Int)+1))=(wv tail first n A).nx j:=by rw[wy hl hj];show _=(if j<n then _ else _);rw[ad hj]
theorem yY(hl:oH tail first n A)(hj:j<n):A.get (i4 tail ((j:Int)+1))=(wv tail first n A).wt j:=by rw[wz hl hj];show _=(if j<n then _ else _);rw[ad hj]
theorem KH(hl:oH tail first n A)(hj:j<n):A.get (jP first ((j:Int)+1))=(wv tail first n A).lk j:=by rw[rX hl hj];show _=(if j<n then _ else _);rw[ad hj]
theorem Ab(hl:oH tail first n A)(v:Int):wv tail first n (A.swap tail v)={wv tail first n A with tl:=v}:=by
 have:=hl.fe;have:=hl.t1;have hi:=ut hl (i:=(tail:Int)) aO aO;have e:A.swap tail v=(A.note 3 tail true).put tail v:=by unfold AR.swap;rw[hi,ad rfl]
 rw[e];exact Aj hl λx=>uF A 3 tail true v x hi hl.ln
theorem vD(hl:oH tail first n A)(o v:Int):A.RE tail o=decide ((wv tail first n A).tl=o)/\wv tail first n (A.Sd tail o v)=(if(wv tail first n A).tl=o then{wv tail first n A with tl:=v} else wv tail first n A):=by
 have:=hl.fe;have:=hl.t1;have hi:=ut hl (i:=(tail:Int)) aO aO;refine⟨by unfold AR.RE;rw[hi];rfl,?_⟩;by_cases h:A.get tail=o
 ·have e:A.Sd tail o v=(A.note 4 tail true).put tail v:=by unfold AR.Sd;rw[hi,ad rfl,ad h]
  rw[e,ad (show(wv tail first n A).tl=o from h)];exact Aj hl λx=>uF A 4 tail true v x hi hl.ln
 ·have e:A.Sd tail o v=A.note 4 tail false:=by unfold AR.Sd;rw[hi,ad rfl,ac h]
  rw[e,ac (show¬(wv tail first n A).tl=o from h)];exact I2 _ _ _
theorem Co(hl:oH tail first n A)(v:Int):wv tail first n (A.add (tail+1) v)=wv tail first n A:=by
 have:=hl.fe;have:=hl.t1;have hi:=ut hl (i:=(tail:Int)+1) aO aO;have e:A.add (tail+1) v=(A.note 5 (tail+1) true).put (tail+1) (wrap64 (A.get (tail+1)+v)):=by unfold AR.add;rw[hi,ad rfl]
 rw[e];exact I1 hl λx=>uF A 5 (tail+1) true _ x hi hl.ln
theorem Gr{B:BK}{L:List Nat}(hl:oH tail first n A)(h:BP (wv tail first n A) B L)(l:∀y∈L,y<n)(i:1<=B.step/\B.step<=4->∃a:Nat,a<n/\B.x=(a:Int)+1):
 cU first A B=tc (wv tail first n A) B/\b7 first A B=f6 (wv tail first n A) B/\wv tail first n (ca first A B)=jh (wv tail first n A) B:=by
 obtain⟨st,x,s,Su⟩:=B;have o:=hl.fe;have p:=hl.t1;unfold BP at h;simp only at h i;refine⟨rfl,?_,?_⟩
 ·by_cases k:st=6
  ·subst k;rcases h with h|h|h|h|h|h|h|h|h
   ·omega
   ·omega
   ·obtain⟨_,_,y,r,rfl,rfl⟩:=h;unfold b7 f6;simp;rw[KH hl (l y aS)]
   all_goals omega
  ·unfold b7 f6;simp[k];rfl
 ·rcases h with h|h|h|h|h|h|h|h|h
  ·obtain⟨rfl,_⟩:=h;unfold ca jh;simp
  ·obtain⟨rfl,_⟩:=h;unfold ca jh;simp[eo]
  ·obtain⟨rfl,_⟩:=h;unfold ca jh;simp[eo]
  ·obtain⟨rfl,_⟩:=h;unfold ca jh;simp;exact JH hl (mi hl _ aO aO)
  ·obtain⟨rfl,_⟩:=h;unfold ca jh;simp;exact JI hl (mi hl _ aO aO)
  ·obtain⟨rfl,_⟩:=h;obtain⟨a,ha,rfl⟩:=i aO;unfold ca jh;simp;rw[rX hl ha];exact JJ hl ha (mi hl _ aO aO)
  ·obtain⟨rfl,_⟩:=h;unfold ca jh;simp[eo]
  ·obtain⟨rfl,g,_,_,_,rfl⟩:=h;obtain⟨a,ha,rfl⟩:=i aO;by_cases hn:(wv tail first n A).bl=0
   ·have c:ca first A ⟨3,(a:Int)+1,(wv tail first n A).bl,Su⟩=A.store first ((a:Int)+1):=by unfold ca;simp[hn]
    have d:jh (wv tail first n A) ⟨3,(a:Int)+1,(wv tail first n A).bl,Su⟩={wv tail first n A with bf:=(a:Int)+1}:=by unfold jh;rw[ac aS,ad rfl,ad hn]
    rw[c,d];exact JH hl (mi hl _ aO aO)
   ·have f:L≠[]:=λe=>hn (by rw[g.la,e];rfl);obtain⟨z,q,e⟩:=mu L f;have b:=l z q;have c:ca first A ⟨3,(a:Int)+1,(wv tail first n A).bl,Su⟩=A.store (jP first (wv tail first n A).bl) ((a:Int)+1):=by unfold ca;simp[hn]
    have d:jh (wv tail first n A) ⟨3,(a:Int)+1,(wv tail first n A).bl,Su⟩={wv tail first n A with lk:=lG (wv tail first n A).lk ((wv tail first n A).bl - 1).toNat ((a:Int)+1)}:=by unfold jh;rw[ac aS,ad rfl,ac hn]
    rw[c,d];have m:((wv tail first n A).bl - 1).toNat=z:=by rw[g.la,e];omega
    rw[m,show(wv tail first n A).bl=(z:Int)+1 by rw[g.la,e],rX hl b];exact JJ hl b (mi hl _ aO aO)
  ·obtain⟨rfl,_⟩:=h;unfold ca jh;simp;exact JI hl (mi hl _ aO aO)
end
structure gL(tail first n:Nat)(m:MS):Prop where
 lay:oH tail first n m.A
 ex:∃Q L c o,ff n (wv tail first n m.A) m.B m.d m.S Q L c o
section
variable{tail first n:Nat}{bud:Int}{m:MS}{j:Nat}
theorem ch{x:MS×Int}{a:AR}{b:BK}{d r:Int}{S':Nat->Nat->Int}(e:x=(⟨a,b,d,S'⟩,r))(hl:oH tail first n a)(h:∃Q L c o,ff n (wv tail first n a) b d (aa S' j 0 r) Q L c o):
 gL tail first n {x.1 with S:=aa x.1.S j 0 x.2}:=by
 subst e;exact⟨hl,h⟩
theorem sy(S:Nat->Nat->Int)(j:Nat)(r:Int)(h:S j 0=r):aa S j 0 r=S:=by subst h;exact sx S j 0
theorem gd.cases{p:Int}(a:gd p):p=0\/p=1\/p=2\/p=3\/p=4\/p=5\/p=10\/p=11\/p=12\/p=13\/p=14\/p=15\/p=16\/p=17\/p=18\/p=19\/p=20\/p=21\/p=22\/p=23\/p=24:=by unfold gd at a;omega
theorem gL.pc(h:gL tail first n m):∀j,j<n->gd (m.S j 0):=by
 obtain⟨hl,Q,L,c,o,ha⟩:=h;exact ha.core.RC
theorem tQ{Q L c:List Nat}{o:Option Nat}(hl:oH tail first n m.A)(ha:ff n (wv tail first n m.A) m.B m.d m.S Q L c o)(hj:j<n)(d:m.S j 0=13\/m.S j 0=22):
 cU first m.A m.B=tc (wv tail first n m.A) m.B/\b7 first m.A m.B=f6 (wv tail first n m.A) m.B/\wv tail first n (ca first m.A m.B)=jh (wv tail first n m.A) m.B:=by
 refine Gr hl ha.bp (λy b=>ha.core.lt y (by simp[b])) λhs=>?_;obtain rfl:=ha.TA hj aO;have a:Ph (wv tail first n m.A) m.B m.d m.S j Q L c:=ha.ph;cases a
 case SO q r y h1 h2 h3 h4 h5 e f=>exact⟨y,ha.core.lt y aS,h3⟩
 all_goals omega
theorem gL.step(h:gL tail first n m)(hj:j<n):gL tail first n (RK tail first n bud m j):=by
 have x:=h;obtain⟨hl,Q,L,c,o,ha⟩:=h;have lay:=λ{z:AR} (k:p7 m.A z)=>k.lay hl;unfold RK;rcases(ha.core.RC j hj).cases with a|a|a|a|a|a|a|a|a|a|a|a|a|a|a|a|a|a|a|a|a
 ·rw[tO (.inl a),n6];exact x
 ·rw[zG a];exact ch rfl (lay (fy _ _ _)) ⟨_,_,_,_,by rw[qN hl hj];exact ha.early hj aO aO (λk e=>cG _ _ e) (λ_ _=>rfl) rfl ⟨rfl,rfl,rfl⟩ (λ_=>eJ _ _ _) (λe=>am e aO)⟩
 ·rw[zH a];exact ch rfl (lay (fy _ _ _)) ⟨_,_,_,_,by rw[qO hl hj];exact ha.early hj aO aO (λ_ _=>rfl) (λk e=>cG _ _ e) rfl ⟨rfl,rfl,rfl⟩ (λe=>am e aO) (λ_=>⟨ha.core.p2 j hj a,eJ _ _ _⟩)⟩
 ·rw[zI a];have hd:=ha.TP (w':={wv tail first n m.A with tl:=(j:Int)+1}) hj a rfl rfl rfl ⟨rfl,rfl,rfl⟩;have b:m.A.get tail=(wv tail first n m.A).tl:=rfl;rcases hd with⟨v,_,_,hd⟩|⟨v,_,hd⟩
  ·exact ch (ad (by rw[b];exact v)) (lay (wH _ _ _)) ⟨_,_,_,_,by rw[Ab hl];exact hd⟩
  ·exact ch (ac (by rw[b];exact v)) (lay (wH _ _ _)) ⟨_,_,_,_,by rw[Ab hl];exact hd⟩
 ·rw[zJ a];obtain⟨p,B,f,hd⟩:=ha.link hj a;exact ch rfl (lay (fy _ _ _)) ⟨_,_,_,_,by rw[f,qN hl B];exact hd _ rfl rfl rfl ⟨rfl,rfl,rfl⟩⟩
 ·rw[ww a];by_cases b:m.A.get (i4 tail ((j:Int)+1))=0
  ·have v:(wv tail first n m.A).wt j=0:=by rw[<-yY hl hj];exact b
   obtain⟨_,_,hd⟩:=ha.enter hj a v;exact ch (ad b) (lay (fs _ _)) ⟨_,_,_,_,by rw[eo];exact hd _ rfl rfl rfl ⟨rfl,rfl,rfl⟩⟩
  ·exact ch (ac b) (lay (fs _ _)) ⟨_,_,_,_,by rw[eo,sy _ _ _ a];exact ha⟩
 ·rw[tO (.inr a),n6];exact x
 ·rw[yo a];exact ch rfl (lay (Ih _ _ _)) ⟨_,_,_,_,by rw[Co hl];exact ha.t11 hj a _⟩
 ·rw[yp a];obtain⟨w,h1,h2⟩:=ha.t12 hj a;have b:=l6 hl hj;have e:iT m.B=⟨5,1,m.B.n,m.B.Su⟩:=by unfold iT jr;simp[w]
  by_cases d:¬m.A.get (dD tail ((j:Int)+1))=0/\¬(m.S j 3).tmod (bud+1)=0
  ·exact ch (ad d) (lay (fs _ _)) ⟨_,_,_,_,by rw[eo,b];exact h1 (by rw[<-b];exact d.1)⟩
  ·exact ch (ac d) (lay (fs _ _)) ⟨_,_,_,_,by rw[eo,b,e];exact h2⟩
 ·rw[yq a];obtain⟨l,r,s⟩:=tQ hl ha hj (.inl a);rcases ha.t13 hj a with⟨i,hd⟩|⟨i,A,c',hd⟩
  ·exact ch (ac (by rw[l,i];simp)) (lay (n8 _ _ _)) ⟨_,_,_,_,by rw[r,s,sy _ _ _ a];exact hd⟩
  ·exact ch (ad (by rw[l,i])) (lay (n8 _ _ _)) ⟨_,_,_,_,by rw[r,s];exact hd⟩
 ·rw[yr a];obtain⟨y,g,f,Q',c',hd⟩:=ha.t14 hj a;exact ch rfl (lay (fy _ _ _)) ⟨_,_,_,_,by rw[f,qN hl g];exact hd⟩
 ·rw[ys a];obtain⟨y,g,f,hd⟩:=ha.t15 hj a;exact ch rfl (lay (fy _ _ _)) ⟨_,_,_,_,by rw[f,qN hl g];exact hd⟩
 ·rw[yt a];obtain⟨h1,h2⟩:=ha.t16 hj a;obtain⟨t,u⟩:=vD hl ((j:Int)+1) (m.S j 2);by_cases ht:(wv tail first n m.A).tl=(j:Int)+1
  ·obtain⟨Q',c',hd⟩:=h1 ht;exact ch (ad (by rw[t];simpa using ht)) (lay (qE _ _ _ _)) ⟨_,_,_,_,by rw[u,ad ht];exact hd⟩
  ·exact ch (ac (by rw[t];simpa using ht)) (lay (qE _ _ _ _)) ⟨_,_,_,_,by rw[u,ac ht];exact h2 ht⟩
 ·rw[uA a];obtain⟨h1,h2⟩:=ha.t17 hj a;have b:=l6 hl hj;by_cases d:m.A.get (dD tail ((j:Int)+1))=0
  ·exact ch (ad d) (lay (fs _ _)) ⟨_,_,_,_,by rw[eo,d];exact h1 (by rw[<-b];exact d)⟩
  ·exact ch (ac d) (lay (fs _ _)) ⟨_,_,_,_,by rw[eo,b];exact h2 (by rw[<-b];exact d)⟩
 ·rw[yu a];obtain⟨y,g,f,hd⟩:=ha.t18 hj a;exact ch rfl (lay (fy _ _ _)) ⟨_,_,_,_,by rw[f,qO hl g];exact hd⟩
 ·rw[yv a];obtain⟨h1,h2⟩:=ha.t19 hj a;obtain⟨t,u⟩:=vD hl ((j:Int)+1) 0;by_cases ht:(wv tail first n m.A).tl=(j:Int)+1
  ·exact ch (ad (by rw[t];simpa using ht)) (lay (qE _ _ _ _)) ⟨_,_,_,_,by rw[u,ad ht];exact h1 ht⟩
  ·exact ch (ac (by rw[t];simpa using ht)) (lay (qE _ _ _ _)) ⟨_,_,_,_,by rw[u,ac ht];exact h2 ht⟩
 ·rw[uB a];obtain⟨h1,h2⟩:=ha.t20 hj a;have b:=l6 hl hj;by_cases d:m.A.get (dD tail ((j:Int)+1))=0
  ·exact ch (ad d) (lay (fs _ _)) ⟨_,_,_,_,by rw[eo,d];exact h1 (by rw[<-b];exact d)⟩
  ·exact ch (ac d) (lay (fs _ _)) ⟨_,_,_,_,by rw[eo,b];exact h2 (by rw[<-b];exact d)⟩
 ·rw[yw a];obtain⟨q,C,f,w,h1,h2⟩:=ha.t21 hj a;have b:=l6 hl C;rw[<-f] at b;have e:lf n m.B (m.S j 1)=⟨1,m.S j 1,m.B.n,m.B.Su⟩:=by
   unfold lf mY;rw[ad (by simp[w,f];omega)]
  by_cases d:m.A.get (dD tail (m.S j 1))=0
  ·exact ch (ad d) (lay (fs _ _)) ⟨_,_,_,_,by rw[eo];exact h1 (by rw[<-b];exact d)⟩
  ·obtain⟨Q',c',hd⟩:=h2 (by rw[<-b];exact d);exact ch (ac d) (lay (fs _ _)) ⟨_,_,_,_,by rw[eo,b,e];exact hd⟩
 ·rw[yx a];obtain⟨l,r,s⟩:=tQ hl ha hj (.inr a);rcases ha.t22 hj a with⟨i,hd⟩|⟨i,A,c',hd⟩
  ·exact ch (ac (by rw[l,i];simp)) (lay (n8 _ _ _)) ⟨_,_,_,_,by rw[r,s,sy _ _ _ a];exact hd⟩
  ·exact ch (ad (by rw[l,i])) (lay (n8 _ _ _)) ⟨_,_,_,_,by rw[r,s];exact hd⟩
 ·rw[yz a];obtain⟨y,g,f,hd⟩:=ha.t23 hj a;have hs:wv tail first n (m.A.store (i4 tail m.d) 0)={wv tail first n m.A with wt:=lG (wv tail first n m.A).wt y 0}:=by rw[f];exact qO hl g 0
  exact ch rfl (lay (fy _ _ _)) ⟨_,_,_,_,by rw[hs];exact hd⟩
 ·rw[yA a];obtain⟨y,g,f,hd⟩:=ha.t24 hj a;exact ch rfl (lay (fy _ _ _)) ⟨_,_,_,_,by rw[f,qO hl g];exact hd⟩
theorem gL.ask(h:gL tail first n m)(i:Int):gL tail first n (kL n m i 0 1):=by
 unfold kL
 split
 ·rename_i hi
  unfold fV bC at hi;simp at hi;obtain⟨hl,Q,L,c,o,ha⟩:=h;exact⟨hl,Q,L,c,o,ha.early aO aO aO (λ_ _=>rfl) (λ_ _=>rfl) rfl ⟨rfl,rfl,rfl⟩ (λe=>am e aO) (λe=>am e aO)⟩
 ·exact h
theorem gL.leave(h:gL tail first n m)(i:Int):gL tail first n (kL n m i 10 11):=by
 unfold kL
 split
 ·rename_i hi
  unfold fV bC at hi;simp at hi;obtain⟨hl,Q,L,c,o,ha⟩:=h;exact⟨hl,Q,L,c,some i.toNat,ha.t10 aO hi.2⟩
 ·exact h
theorem gL.new(A:AR)(hl:oH tail first n A)(b:∀i,(tail:Int)<=i->A.get i=0)(hn:1<=n):gL tail first n ⟨A,⟨0,0,0,0⟩,0,λ_ _=>0⟩:=by
 have c:=hl.fe;refine⟨hl,[],[],[],none,?_,.inl ⟨rfl,b _ aO,b _ aO,trivial⟩,⟨rfl,λ_=>rfl,λa r e=>by simp at e,rfl⟩⟩;refine{nd:=by simp,lt:=by simp,mem:=λj _ h=>?_,idle:=by simp,RS:=by simp,RG:=λj _ h=>?_,Rv:=by simp,RC:=λ_ _=>.inl aS,tl:=b _ aO,ql:=trivial,w1:=by simp,p2:=λj _ h=>?_,p3:=λj _ h=>?_};all_goals(simp only at h;omega)
end
def mp(pc:Int):Nat:=
 if pc=0 then 0 else if pc=1 then 22 else if pc=2 then 21 else if pc=3 then 20 else if pc=4 then 19 else if pc=5 then 18 else if pc=10 then 17 else if pc=11 then 16 else if pc=12 then 15 else if pc=13 then 10
 else if pc=14 then 2 else if pc=15 then 5 else if pc=16 then 4 else if pc=17 then 3 else if pc=18 then 1 else if pc=19 then 9 else if pc=20 then 8 else if pc=21 then 7 else if pc=22 then 2 else if pc=23 then 1 else if pc=24 then 1 else 0
def qY(B:BK):Nat:=if B.step=0 then 0 else if B.step<=4 then(5 - B.step).toNat else(9 - B.step).toNat
def mL(S:Nat->Nat->Int):Nat->Nat
 | 0=>0
 |n+1=>mL S n+mp (S n 0)
def mH(n:Nat)(m:MS):Nat:=mL m.S n+qY m.B
theorem Kx{c:Prop}[Decidable c]{b:Nat}(h1:a<=k)(h2:b<=k):(if c then a else b)<=k:=by split;exact h1;exact h2
theorem Fq(pc:Int):mp pc<=22:=by
 unfold mp;repeat (refine Kx aO ?_)
 omega
theorem Aa(S:Nat->Nat->Int):∀n,mL S n<=22*n
 | 0=>ba _
 |n+1=>by have:=Aa S n;have:=Fq (S n 0);unfold mL;omega
theorem nA{S S':Nat->Nat->Int}:∀{n:Nat},(∀j,j<n->S' j 0=S j 0)->mL S' n=mL S n
 | 0,_=>rfl
 |n+1,h=>by unfold mL;rw[nA (λj hj=>h j aO),h n aO]
theorem wW{S S':Nat->Nat->Int}{j:Nat}:∀{n:Nat},j<n->(∀k,k≠j->S' k 0=S k 0)->mL S' n+mp (S j 0)=mL S n+mp (S' j 0)
 | 0,h,_=>am h (Nat.not_lt_zero _)
 |n+1,h,a=>by
  unfold mL;by_cases e:j=n
  ·subst e;rw[nA (S:=S) (S':=S') (λk c=>a k aO)];omega
  ·have:=wW (n:=n) (S:=S) (S':=S') aO a;rw[a n (λb=>e b.symm)];omega
section
variable{tail first n:Nat}{bud:Int}{m:MS}{j:Nat}
def rU(tail first n:Nat)(m:MS)(j:Nat):Prop:=
 m.S j 0=0\/m.S j 0=10\/(m.S j 0=5/\(wv tail first n m.A).wt j≠0)\/((m.S j 0=17\/m.S j 0=20)/\(wv tail first n m.A).nx j=0)
structure Ce(n:Nat)(m m':MS)(j:Nat)(pc:Int):Prop where
 me:m'.S j 0=pc
 ot:∀k,k≠j->∀t,m'.S k t=m.S k t
variable{x:MS×Int}{b:AR}{d r:Int}{S':Nat->Nat->Int}
theorem Bv{c:BK}(e:x=(⟨b,c,d,S'⟩,r))(h:∀k,k≠j->∀t,S' k t=m.S k t):Ce n m {x.1 with S:=aa x.1.S j 0 x.2} j r:=by
 subst e;exact⟨ak _ _ _ _,λk a t=>by show aa S' j 0 r k t=_;rw[aj _ _ _ _ a];exact h k a t⟩
variable{a:MS}
theorem JD{pc:Int}(hj:j<n)(h:Ce n m a j pc)(c:mp pc+qY a.B<mp (m.S j 0)+qY m.B):mH n a<mH n m:=by
 have:=wW (S:=m.S) (S':=a.S) hj (λk b=>h.ot k b 0);rw[h.me] at this;unfold mH;omega
theorem b9{a:BK}{c:Int}(hj:j<n)(e:x=(⟨b,a,c,S'⟩,r))(h:∀k,k≠j->∀t,S' k t=m.S k t)(d:mp r+qY a<mp (m.S j 0)+qY m.B):mH n {x.1 with S:=aa x.1.S j 0 x.2}<mH n m:=by
 subst e;exact JD hj (Bv rfl h) d
variable{c Q L:List Nat}{w:WV}{B:BK}{S:Nat->Nat->Int}
theorem Ph.T6{x:Nat}(h:Ph w B d S x Q L c)(h1:S x 0≠13)(h2:S x 0≠22):B.step=0:=by
 cases h<;>first|assumption|omega
theorem Ph.T7{x:Nat}(h:Ph w B d S x Q L c)(h1:S x 0=13):5<=B.step/\B.step<=8:=by
 cases h<;>first|assumption|omega
theorem Ph.T8{x:Nat}(h:Ph w B d S x Q L c)(h1:S x 0=22):1<=B.step/\B.step<=4:=by
 cases h<;>first|assumption|omega
theorem td(first:Nat)(A:AR)(B:BK)(h:1<=B.step/\B.step<=8):(cU first A B=true->(b7 first A B).step=0)/\(cU first A B=false->qY (b7 first A B)<qY B):=by
 obtain⟨st,x,b,Su⟩:=B;simp only at h;rcases(by omega:st=1\/st=2\/st=3\/st=4\/st=5\/st=6\/st=7\/st=8) with rfl|rfl|rfl|rfl|rfl|rfl|rfl|rfl
 ·simp[cU,b7,qY]
 ·simp[cU,b7,qY]
 ·simp[cU,b7,qY]
 ·simp[cU,b7,qY]
 ·by_cases a:A.get first=0<;>simp[cU,b7,qY,a]
 ·simp[cU,b7,qY]
 ·by_cases a:b=0<;>simp[cU,b7,qY,a]
 ·simp[cU,b7,qY]
theorem Cy(h:B.step=0):qY B=0:=by unfold qY;rw[ad h]
theorem gL.sinks(h:gL tail first n m)(hj:j<n)(hi:¬rU tail first n m j):mH n (RK tail first n bud m j)<mH n m:=by
 obtain⟨hl,Q,L,c,o,ha⟩:=h;have d:10<=m.S j 0->Ph (wv tail first n m.A) m.B m.d m.S j Q L c:=λl=>by
  obtain rfl:=ha.TA hj l;exact ha.ph
 unfold RK;unfold rU at hi;rcases(ha.core.RC j hj).cases with a|a|a|a|a|a|a|a|a|a|a|a|a|a|a|a|a|a|a|a|a
 ·exact am (.inl a) hi
 ·rw[zG a];exact b9 hj rfl (λ_ _ _=>rfl) (by rw[a];simp[mp])
 ·rw[zH a];exact b9 hj rfl (λ_ _ _=>rfl) (by rw[a];simp[mp])
 ·rw[zI a];unfold Ed
  split
  ·exact b9 hj rfl (λk b t=>aj _ _ _ _ b) (by rw[a];simp[mp])
  ·exact b9 hj rfl (λk b t=>aj _ _ _ _ b) (by rw[a];simp[mp])
 ·rw[zJ a];exact b9 hj rfl (λ_ _ _=>rfl) (by rw[a];simp[mp])
 ·rw[ww a];unfold Ee
  split
  ·exact b9 hj rfl (λ_ _ _=>rfl) (by rw[a];simp[mp])
  ·rename_i e
   rw[yY hl hj] at e;exact am (.inr (.inr (.inl ⟨a,e⟩))) hi
 ·exact am (.inr (.inl a)) hi
 ·rw[yo a];exact b9 hj rfl (λk b t=>aj _ _ _ _ b) (by rw[a];simp[mp])
 ·rw[yp a];have g:=(d aO).T6 aO aO;unfold wi
  split
  ·exact b9 hj rfl (λk b t=>aj _ _ _ _ b) (by rw[a];simp[mp])
  ·refine b9 hj rfl (λk b t=>aj _ _ _ _ b) ?_;rw[a,Cy g];unfold iT jr;simp[g,mp,qY]
 ·rw[yq a];have g:=(d aO).T7 a;obtain⟨b1,i⟩:=td first m.A m.B aO;unfold wj
  split
  ·rename_i f
   refine b9 hj rfl (λk b t=>aj _ _ _ _ b) ?_;rw[a];rw[Cy (b1 f)];unfold Bg
   split<;>split<;>simp[mp]<;>omega
  ·rename_i f
   have:=i (by simpa using f);exact b9 hj rfl (λ_ _ _=>rfl) (by rw[a];omega)
 ·rw[yr a];exact b9 hj rfl (λ_ _ _=>rfl) (by rw[a];simp[mp])
 ·rw[ys a];exact b9 hj rfl (λ_ _ _=>rfl) (by rw[a];simp[mp])
 ·rw[yt a];unfold wk
  split
  ·exact b9 hj rfl (λ_ _ _=>rfl) (by rw[a];simp[mp])
  ·exact b9 hj rfl (λ_ _ _=>rfl) (by rw[a];simp[mp])
 ·rw[uA a];unfold wl
  split
  ·rename_i e
   rw[l6 hl hj] at e;exact am (.inr (.inr (.inr ⟨.inl a,e⟩))) hi
  ·exact b9 hj rfl (λk b t=>aj _ _ _ _ b) (by rw[a];simp[mp])
 ·rw[yu a];exact b9 hj rfl (λ_ _ _=>rfl) (by rw[a];simp[mp])
 ·rw[yv a];unfold wm
  split
  ·exact b9 hj rfl (λ_ _ _=>rfl) (by rw[a];simp[mp])
  ·exact b9 hj rfl (λ_ _ _=>rfl) (by rw[a];simp[mp])
 ·rw[uB a];unfold wn
  split
  ·rename_i e
   rw[l6 hl hj] at e;exact am (.inr (.inr (.inr ⟨.inr a,e⟩))) hi
  ·exact b9 hj rfl (λk b t=>aj _ _ _ _ b) (by rw[a];simp[mp])
 ·rw[yw a];have g:=(d aO).T6 aO aO;unfold wq
  split
  ·exact b9 hj rfl (λ_ _ _=>rfl) (by rw[a];simp[mp])
  ·refine b9 hj rfl (λ_ _ _=>rfl) ?_;rw[a,Cy g];have:qY (lf n m.B (m.S j 1))<=4:=by
    unfold lf
    split
    ·simp[qY]
    ·rw[Cy g];omega
   simp[mp];omega
 ·rw[yx a];have g:=(d aO).T8 a;obtain⟨b1,i⟩:=td first m.A m.B aO;unfold wu
  split
  ·rename_i f
   refine b9 hj rfl (λ_ _ _=>rfl) ?_;rw[a];rw[Cy (b1 f)];simp[mp];omega
  ·rename_i f
   have:=i (by simpa using f);exact b9 hj rfl (λ_ _ _=>rfl) (by rw[a];omega)
 ·rw[yz a];exact b9 hj rfl (λ_ _ _=>rfl) (by rw[a];simp[mp])
 ·rw[yA a];exact b9 hj rfl (λ_ _ _=>rfl) (by rw[a];simp[mp])
structure nF(tail first n:Nat)(m m':MS):Prop where
 pc:∀j,j<n->m'.S j 0=m.S j 0
 wv:Go.Proofs.YteijjhahgabalaaGreat.wv tail first n m'.A=Go.Proofs.YteijjhahgabalaaGreat.wv tail first n m.A
 bk:m'.B=m.B
theorem nF.UJ:nF tail first n m m:=⟨λ_ _=>rfl,rfl,rfl⟩
theorem qW{a:AR}{b:BK}{c:Int}(e:x=(⟨a,b,c,S'⟩,r))(h1:Go.Proofs.YteijjhahgabalaaGreat.wv tail first n a=Go.Proofs.YteijjhahgabalaaGreat.wv tail first n m.A)(h2:b=m.B)(h3:∀k,aa S' j 0 r k 0=m.S k 0):nF tail first n m {x.1 with S:=aa x.1.S j 0 x.2}:=by
 subst e;exact⟨λk _=>h3 k,h1,h2⟩
theorem gL.idle(h:gL tail first n m)(hj:j<n)(hi:rU tail first n m j):nF tail first n m (RK tail first n bud m j):=by
 obtain⟨hl,Q,L,c,o,ha⟩:=h;have b:∀(v pc:Int)(k:Nat),m.S j 0=pc->aa (aa m.S j 1 v) j 0 pc k 0=m.S k 0:=λv pc k e=>by
  by_cases d:k=j
  ·subst d;rw[ak,e]
  ·rw[aj _ _ _ _ d,aj _ _ _ _ d]
 have Sz:∀(pc:Int)(k:Nat),m.S j 0=pc->aa m.S j 0 pc k 0=m.S k 0:=λpc k e=>by
  by_cases d:k=j
  ·subst d;rw[ak,e]
  ·rw[aj _ _ _ _ d]
 unfold RK;rcases hi with a|a|⟨a,f⟩|⟨a|a,f⟩
 ·rw[tO (.inl a),n6];exact nF.UJ
 ·rw[tO (.inr a),n6];exact nF.UJ
 ·rw[ww a];exact qW (ac (by rw[yY hl hj];exact f)) (eo _) rfl (λk=>Sz 5 k a)
 ·rw[uA a];exact qW (ad (by rw[l6 hl hj];exact f)) (eo _) rfl (λk=>b _ 17 k a)
 ·rw[uB a];exact qW (ad (by rw[l6 hl hj];exact f)) (eo _) rfl (λk=>b _ 20 k a)
theorem nF.wt(h:nF tail first n m a):mH n a=mH n m:=by
 unfold mH;rw[nA h.pc,h.bk]
def N0(tail first n:Nat)(m:MS)(j:Nat):Prop:=m.S j 0=10\/¬rU tail first n m j
theorem Ba(hj:j<n)(a:m.S j 0=10):mH n (kL n m j 10 11)<mH n m:=by
 have b:fV n m j 10=true:=by unfold fV bC;simp[a];omega
 have e:kL n m j 10 11={m with S:=aa m.S j 0 11}:=by unfold kL;rw[ad b];rfl
 rw[e];exact JD (pc:=11) hj ⟨ak _ _ _ _,λk c t=>aj _ _ _ _ c⟩ (by rw[a];show mp 11+qY m.B<_;simp[mp])
theorem Bu(hj:j<n):np tail first n bud m j=RK tail first n bud m j:=by
 unfold np;rw[ad (by unfold bC;simp;omega)];rfl
theorem gL.stuck(h:gL tail first n m)(hs:∀j,j<n->¬N0 tail first n m j):∀j,j<n->m.S j 0=0:=by
 obtain⟨hl,Q,L,c,o,ha⟩:=h;have i:∀j,j<n->m.S j 0≠10/\rU tail first n m j:=λj hj=>by
  have:=hs j hj;unfold N0 at this;exact⟨λe=>this (.inl e),FM λe=>this (.inr e)⟩
 have b:∀j,j<n->m.S j 0=0\/(m.S j 0=5/\(wv tail first n m.A).wt j≠0)\/((m.S j 0=17\/m.S j 0=20)/\(wv tail first n m.A).nx j=0):=λj hj=>by
  obtain⟨h1,h2⟩:=i j hj;rcases h2 with h2|h2|h2|h2
  ·exact .inl h2
  ·exact am h2 h1
  ·exact .inr (.inl h2)
  ·exact .inr (.inr h2)
 have k:∀q∈Q,o≠some q->m.S q 0=5:=λq p g=>by
  have h1:=ha.core.idle q (fc.2 (.inl p)) g;rcases b q (ha.core.lt q (fc.2 (.inl p))) with h2|h2|h2<;>omega
 cases o with
 |some x=>
  exfalso;have s:=ha.core.Rv x rfl;have d:Ph (wv tail first n m.A) m.B m.d m.S x Q L c:=ha.ph;have t:(m.S x 0=17\/m.S x 0=20)/\(wv tail first n m.A).nx x=0:=by
   rcases b x s.1 with h2|h2|h2
   ·omega
   ·omega
   ·exact h2
  have f:∃q r,Q=x::q::r:=by
   cases d
   case late q r y h1 h2 h3=>exact⟨q,r,rfl⟩
   case wait q r h1 h2=>exact⟨q,r,rfl⟩
   all_goals omega
  obtain⟨q,r,rfl⟩:=f;have l:q≠x:=λe=>s.2.2.1 (by simp[e]);have h5:=k q aS (λe=>l (by simpa using e.symm));have:=ha.core.ql.1;omega
 |none=>
  have d:FZ (wv tail first n m.A) m.B m.S Q L c:=ha.ph;have hQ:Q=[]:=by
   cases Q with
   |nil=>rfl
   |cons a r=>
    exfalso;obtain⟨h1,h2⟩:=d.hd a r rfl;rcases b a (ha.core.lt a aS) with h3|h3|h3
    ·omega
    ·exact h3.2 h2
    ·omega
  have u:=d.l0 hQ;have v:=d.c0;subst hQ u v;intro j hj;rcases b j hj with h3|h3|h3
  ·exact h3
  ·have:=ha.core.mem j hj (.inr h3.1);simp at this
  ·have:=ha.core.RG j hj aO;simp at this
theorem Cz(h:0<=B.step):qY B<=8:=by unfold qY;split;omega;split<;>omega
end
end Go.Proofs.YteijjhahgabalaaGreat
