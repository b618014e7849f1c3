/- cna.New. -/
import Derived.Deep.DeepMust
import Derived.Test.YteijjhahgabalaaGreatWF30
import Derived.Test.YteijjhahgabalaaGreatWF26
set_option maxRecDepth 100000
set_option maxHeartbeats 8000000
set_option linter.all false
namespace Go.Proofs.YteijjhahgabalaaGreat
open Go.RowKit
open Tryz
def BW(P T:List Int):List Int:=T.map λx=>(mS P x:Int)
def Pf(P T:List Int)(A:AR)(bud:Int):eh:=⟨BW P T,A.taken+1,bud⟩
def Re(T:List Int)(A:AR):dq:=⟨{A with taken:=A.taken+(2+3*T.length)},λ_ _=>0,⟨0,false,0,0,0⟩⟩
def Ck(w:World)(tb:Nat)(P T:List Int)(lb base:Nat):Prop:=∀w' S,af S w w'->(∀k∈S,base<=k\/k=lb)->jG w' tb P T
structure JN(w:World)(lb tb sb ab wb:Nat)(P T:List Int)(A:AR)(tail:Nat)(bud:Int)(k:Nat)(vn:Value)(base:Nat):Prop where
 box:aq w lb [some ab,tail,bud,vn,.pointer none,.slice (some ⟨sb,0,none⟩) T.length T.length] 223
 Sh:w.ownsRow base 3 1 vn k ((T.take k).map λx=>Value.int .i64 (mS P x))
 Sj:Ck w tb P T lb base
 row:aq w sb (dJ T.length λ_ _=>0) 138
 ar:ax w ab wb A
 low:lb<base/\tb<base/\sb<base/\ab<base/\wb<base
 b3:base<=w.heap.size
structure Ms(w:World)(lb tb sb ab wb:Nat)(P T:List Int)(A:AR)(tail:Nat)(bud:Int)(k:Nat)(vn:Value)(base:Nat):Prop where
 box:aq w lb [some ab,tail,bud,vn,.pointer none,.slice (some ⟨sb,0,none⟩) T.length T.length] 223
 Sh:w.ownsRow base 3 1 vn k ((T.take k).map λx=>Value.int .i64 (mS P x))
 Sj:(k=0/\vn= .slice none 0 0/\sO w tb P T)\/Ck w tb P T lb base
 row:aq w sb (dJ T.length λ_ _=>0) 138
 ar:ax w ab wb A
 low:lb<base/\tb<base/\sb<base/\ab<base/\wb<base
 b3:base<=w.heap.size
section
variable{w w' w1:World}{lb tb sb ab wb:Nat}{P T:List Int}{A:AR}{tail:Nat}{bud:Int}{k:Nat}{vn v':Value}{base:Nat}
theorem Ck.now(h:Ck w tb P T lb base):jG w tb P T:=h w [] aF aS
theorem Ck.of{vs:List Value}(h:jG w tb P T)(hl:aq w lb vs 223):Ck w tb P T lb w.heap.size:=by
 intro w' S e hs;have hn:∀{b:Nat}{vs:List Value}{U:TypeId},aq w b vs U->U≠223->b∉S:=λh j hm=>by
  have:=hs _ hm;have:=h.lt;have:=h.differ hl j;omega
 obtain⟨m,n,d,a,c,l,gt,gn,gs,gm,h1,h2,h3,h4,h5⟩:=h;have hi:∀{g:Nat}{v:Value}{zs:List Int},IR w g v zs->IR w' g v zs:=λh=>by
  have f:=h;obtain⟨_,_,_,i,_⟩:=h;exact f.Rr e (hn i aJ)
 exact⟨m,n,d,a,c,l,gt,gn,gs,gm,h1.Rr e (hn h1 aJ),hi h2,hi h3,hi h4,hi h5⟩
theorem Ck.Rr(h:Ck w tb P T lb base){S:List Nat}(e:af S w w')(hs:∀k∈S,base<=k\/k=lb):Ck w' tb P T lb base:=λw2 d b c=>
 h w2 (S++d) ((e.mono (by intro z a;simp[a])).trans (b.mono (by intro z a;simp[a]))) (by intro z a;rcases fc.1 a with h|h;exact hs z h;exact c z h)
theorem Ms.node(h:Ms w lb tb sb ab wb P T A tail bud k vn base)(hs:ea P T)(f:k<T.length):Calls prog 94 #[some tb,k] w λe w'=>e= .returned (mS P (T[k]?.getD 0):Int)/\∃a,JN w' lb tb sb ab wb P T A tail bud k vn a/\base<=a/\af [tb] w w':=by
 rcases h.Sj with⟨rfl,rfl,b⟩|b
 ·refine(IP b hs f).mono ?_;rintro e w' ⟨rfl,g,c⟩;have i:=c.size;obtain⟨l1,l,m,l4,l5⟩:=h.low;have j:=h.b3;obtain⟨n,o,gp,gt,n1,_⟩:=b;have d:=h.box.Rr c (by have:=h.box.differ n1 aJ;simp;omega);refine⟨rfl,w'.heap.size,⟨d,⟨by simp,.inl ⟨rfl,rfl⟩⟩,Ck.of g d,h.row.Rr c (by have:=h.row.differ n1 aJ;simp;omega),h.ar.Rr c (by have:=h.ar.box.differ n1 aJ;simp;omega) (by have:=h.ar.row.differ n1 aJ;simp;omega),by omega,ba _⟩,by omega,c⟩
 ·refine(iI b.now f).mono ?_;rintro e w' ⟨rfl,rfl⟩;exact⟨rfl,base,⟨h.box,h.Sh,b,h.row,h.ar,h.low,h.b3⟩,ba _,aF⟩
theorem JN.UR(h:JN w lb tb sb ab wb P T A tail bud k vn base):∀z∈vn.ownBlock.toList,base<=z:=λz a=>wQ h.Sh z (by simpa using a)
variable{o:Obj}
theorem JN.Ss(h:JN w lb tb sb ab wb P T A tail bud k vn base)(a:(w.alloc o).grownBy w1 vn.ownBlock):aq w1 lb [some ab,tail,bud,vn,.pointer none,.slice (some ⟨sb,0,none⟩) T.length T.length] 223:=
 h.box.Rr (bE a) (λhm=>by have:=h.UR _ hm;have:=h.low.1;omega)
theorem JN.grow(h:JN w lb tb sb ab wb P T A tail bud k vn base)(n:k<T.length)(c:w1.ownsRow base 3 1 v' (k+1) (((T.take k).map λx=>Value.int .i64 (mS P x))++[.int .i64 (mS P (T[k]?.getD 0))]))(j:(w.alloc o).grownBy w1 vn.ownBlock):
 Ms (w1.setCell (lb,3) v') lb tb sb ab wb P T A tail bud (k+1) v' base:=by
 have f:=bE j;have i:=h.UR;obtain⟨l1,q,p,l4,l5⟩:=h.low;have d:∀z,z<base->z∉vn.ownBlock.toList:=λz l hm=>by have:=i z hm;omega
 have a:af [lb] w1 (w1.setCell (lb,3) v'):=aU;have e:((T.take k).map λx=>Value.int .i64 (mS P x))++[.int .i64 (mS P (T[k]?.getD 0))]=(T.take (k+1)).map λx=>Value.int .i64 (mS P x):=by
  rw[FU,eB n,xu];rfl
 rw[e] at c;have m:=h.row.Rr f (d _ p);have g:=h.ar.Rr f (d _ l4) (d _ l5);have b:=h.Ss j;have ht:Ck (w1.setCell (lb,3) v') tb P T lb base:=(h.Sj.Rr f (λz l=>.inl (i z l))).Rr a aS;exact⟨b.set 3 v',yH c a aQ,.inr ht,m.Rr a (by have:=m.differ b aJ;simp;omega),g.Rr a (by have:=g.box.differ b aJ;simp;omega) (by have:=g.row.differ b aJ;simp;omega),h.low,dv h.b3 (dv f.size a.size)⟩
theorem CR(c1:w.cell? (lb,1)=some (.int .i64 tail))(ht:tail<=4096):Calls prog 96 #[some lb,(1:Int)] w λe w'=>e= .returned ((tail:Int)+2:Int)/\w=w':=by
 have a:=aH (show wrap64 (wrap64 ((tail:Int)+3) - 1)=(tail:Int)+2 by unfold wrap64;omega);clear ht;go_enter func96,ntmps96;go_wp2;go_ret;exact⟨eW a.o,rfl⟩
theorem CO{x y:Value}(hx:aZ w 0 x P)(hy:aZ w 0 y T)(hT:ea P T)(hA:ax w ab wb A)(hr:A.taken+(2+3*T.length)<=A.ws.length)(ht:A.taken<=3000)(hd:0<=bud/\bud<=1000):
 Calls prog 75 #[some ab,.agg #[x,y],bud] w λe w'=>∃B:p5,e= .returned (.tuple #[some B.lb,(0:Int)])/\(B.ab=ab/\B.wb=wb/\w.heap.size<=B.sc.kb/\w.heap.size<=B.sb)/\cS w' B (Pf P T A bud) (Re T A)/\af [ab,wb] w w':=by
 obtain⟨s1,s2,s3,s4⟩:=hT.size;have mk:=iE T.length aO;obtain⟨i0,ia,ib,ic,id_⟩:=mN v8;have F:=aH (ae ia (ae ib (ae ic id_)));have HPN:=aH (λ(W:World) (f:af [] w W)=>gQ (hx.Rr f aS) (hy.Rr f aS) hT);have HBR:=aH (λ(W:World)=>jQ bud W);have hbr:(decide ((0:Int)<=bud)&&decide (bud<=1000))=true:=by simp;omega
 rw[hbr] at HBR;have X:=aH ((af.refl [] w).alloc (.cells #[x,y] 24));have hB:=aq.new w #[x,y] 24;have t0:=hB.cell (i:=0) rfl;have t1:=hB.cell (i:=1) rfl;have hnot:= @aX prog;have HAR:=aH hA;have HT:=aH hT;have hab:=hA.box.lt;have hwb:=hA.row.lt;obtain⟨e1,e3,e2⟩:=kV (A:=A) (k:=2+3*T.length) hr;have Z:=aH (ae e1 (ae e3 e2));have HTT:=aH ht;obtain⟨a1,cap1,rfl, -, -⟩:=hx;obtain⟨a2,cap2,rfl, -, -⟩:=hy;clear hbr hA hT hB ia ib ic id_ e1 e2 e3 hr ht;go_enter func75,ntmps75;go_wp2_with fail;refine(HPN.o _ X.o).mono ?_;rintro e w1 ⟨tb,rfl,htb,J,s⟩;have Y:=aH (X.o.trans s);have HT1:=aH J;clear s J t0 t1;go_wp2_with fail;refine gF (HBR.o _) ?_;rintro w' rfl;go_wp2_with fail;refine gF (jf HT1.o) ?_;rintro w' rfl;have htb0:w.heap.size<=tb:=dv X.o.size htb;have hTk:=fL (HAR.o.Rr Y.o aS aS) (2+3*(T.length:Int));have ec:(2+3*(T.length:Int))=((2+3*T.length:Nat):Int):=by omega
 rw[ec,Z.o.1,Z.o.2.1,Z.o.2.2,<-ec] at hTk;have O:=aH hTk;clear hTk ec;go_wp2_with fail;refine gF O.o ?_;rintro w3 ⟨hA3,s⟩;have M:fF w1 [ab,wb]:=λz hz=>(HAR.o.Rr Y.o aS aS).SF (by simpa using hz);have hT3:sO w3 tb P T:=by
  obtain⟨vp,vt,gp,gt,h1,h2,h3⟩:=HT1.o;exact⟨vp,vt,gp,gt,h1.Rr s (M.not h1),h2.SF s M,h3.SF s M⟩
 have HT3:=aH hT3;have HF3:=aH ((Y.o.mono (S':=[ab,wb]) aS).trans s);have V:=aH hA3;have hsz3:=s.size;have htb3:tb<w3.heap.size:=by obtain⟨_,_,_,_,q,_⟩:=hT3;exact q.lt
 clear s hA3 M O hT3;have hs1:=(aq.new w3 (dJ T.length λ_ _=>0).toArray 138).alloc (.cells #[some ab,((A.taken:Int)+1:Int),bud,.slice none 0 0,.pointer none,.slice (some ⟨w3.heap.size,0,none⟩) T.length T.length] 223);have hb1:=aq.new (w3.alloc (.cells (dJ T.length λ_ _=>0).toArray 138)) #[some ab,((A.taken:Int)+1:Int),bud,.slice none 0 0,.pointer none,.slice (some ⟨w3.heap.size,0,none⟩) T.length T.length] 223;rw[bP] at hb1;have hf5:af [] w3 ((w3.alloc (.cells (dJ T.length λ_ _=>0).toArray 138)).alloc (.cells #[some ab,((A.taken:Int)+1:Int),bud,.slice none 0 0,.pointer none,.slice (some ⟨w3.heap.size,0,none⟩) T.length T.length] 223)):=(aF.alloc _).alloc _;have R:((w3.alloc (.cells (dJ T.length λ_ _=>0).toArray 138)).alloc (.cells #[some ab,((A.taken:Int)+1:Int),bud,.slice none 0 0,.pointer none,.slice (some ⟨w3.heap.size,0,none⟩) T.length T.length] 223)).heap.size=w3.heap.size+2:=by rw[bP,bP]
 have HBX:=aH (ae hs1 (ae hb1 (ae hf5 R)));clear hs1 hb1 hf5 R;have hN:Ms ((w3.alloc (.cells (dJ T.length λ_ _=>0).toArray 138)).alloc (.cells #[some ab,((A.taken:Int)+1:Int),bud,.slice none 0 0,.pointer none,.slice (some ⟨w3.heap.size,0,none⟩) T.length T.length] 223)) (w3.heap.size+1) tb w3.heap.size ab wb P T {A with taken:=A.taken+(2+3*T.length)} (A.taken+1) bud 0 (.slice none 0 0) (w3.heap.size+2):=by
  obtain⟨q1,q2,S,q4⟩:=HBX.o;have J:=HT3.o;obtain⟨vp,vt,gp,gt,h1,h2,h3⟩:=J;exact⟨q2,sL _ _ _ _,.inl ⟨rfl,rfl,⟨vp,vt,gp,gt,h1.Rr S aS,h2.Rr S aS,h3.Rr S aS⟩⟩,q1,V.o.Rr S aS aS,⟨by omega,by omega,by omega,by have:=V.o.box.lt;omega,by have:=V.o.row.lt;omega⟩,by omega⟩
 have HN5:=aH hN;have HF5:=aH (HF3.o.trans (HBX.o.2.2.1.mono aS));have hsz0:=HF3.o.size;obtain⟨lb,hlb⟩:∃lb,lb=w3.heap.size+1:=⟨_,rfl⟩
 have G:=aH hlb;clear hN hlb;go_wp2_with fail;rw[<-G.o];rw[<-G.o] at HN5;generalize((w3.alloc (.cells (dJ T.length λ_ _=>0).toArray 138)).alloc (.cells #[some ab,((A.taken:Int)+1:Int),bud,.slice none 0 0,.pointer none,.slice (some ⟨w3.heap.size,0,none⟩) T.length T.length] 223))=W5 at*;go_loopw[48] (λiv wr=>∃(k:Nat)(vn:Value)(base:Nat),iv= .int .i64 k/\k<=T.length/\w3.heap.size+2<=base/\Ms wr lb tb w3.heap.size ab wb P T {A with taken:=A.taken+(2+3*T.length)} (A.taken+1) bud k vn base/\af [ab,wb] w wr) (λiv _=>T.length - (intOf iv).toNat)
 case atStart=>exact⟨0,_,_,rfl,fA _,ba _,HN5.o,HF5.o⟩
 case round=>
  obtain⟨k,vn,base,rfl,hk,hbs,hN,s⟩:=hrel;have D:=aH hN;have HF:=aH s;clear hN s;by_cases hlt:k<T.length
  ·have l1:(k:Int)<T.length:=by omega
   have HLT:=aH hlt;have HND:=aH (λ(W:World) (f:af [] wr W)=>Ms.node (w:=W) (by
    obtain⟨q1,q2,S,q4,q5,q6,q7⟩:=D.o;exact⟨q1.Rr f aS,yH q2 f aS,by
     rcases S with⟨r1,r2,r3⟩|r
     ·obtain⟨vp,vt,gp,gt,h1,h2,h3⟩:=r3;exact .inl ⟨r1,r2,vp,vt,gp,gt,h1.Rr f aS,h2.Rr f aS,h3.Rr f aS⟩
     ·exact .inr (r.Rr f aS),q4.Rr f aS,q5.Rr f aS aS,q6,dv q7 f.size⟩) HT.o hlt)
   have c3:=D.o.box.cell (i:=3) rfl;generalize hy:(mS P (T[k]?.getD 0):Int)=yy at*;have HY:=aH hy;clear hlt hy;have hk63:k+1<=maxLen:=by unfold maxLen;omega
   have hk8:(k+1)*8<=140737488355328:=by omega
   go_wp2_with fail
   go_region_law (first
    |(refine qg rfl (.tmp 55) (.tmp 59) 22 rfl t 3 i0 (.int .i64 0) 1 8 underlying22 F.o.1 F.o.2.1 F.o.2.2.1 F.o.2.2.2 rfl aJ vn k _ rfl (HV.o.Sh.alloc _) ⟨w2.heap.size,0,none⟩ 1 1 [yy] rfl rfl (cell_one_new _ _ _) aC hk63 hk8 (by rw[bP];have:=HV.o.b3;omega) ?_;intro v' wA v g;obtain⟨va,vl,vc,rfl⟩:=dm v;have hbx:=HV.o.Ss g;have bc:=hbx.cell (i:=3) rfl;have bz:=hbx.frozen;have HG:=aH (HV.o.grow HLT.o (by rw[HY.o];exact v) g);have HFA:=aH (bE g);clear v g hbx)
    |(go_simp;go_wp2_with(go_at_call 94;refine(HND.o _ aD).mono ?_;rintro e w2 ⟨rfl,t,hV,hb2,hF2⟩;have c9:=hV.box.cell (i:=3) rfl;have c10:∀o:Obj,(w2.alloc o).cell? (lb,3)=some vn:=λo=>(hV.box.alloc o).cell (i:=3) rfl;have HV:=aH hV;have HF2:=aH hF2;clear hV hF2)))
   all_goals
    go_wp2_with fail;go_roundw
    case rel=>exact⟨k+1,_,t,by go_num,by omega,by omega,HG.o,((HF.o.Rs.Rx HF2.o (λz hz=>.inr (by simp at hz;omega))).Rx HFA.o (λz hz=>.inr (by have:=HV.o.UR z hz;omega))).set _ _ (.inr (by have:=G.o;show w.heap.size<=lb;omega))⟩
    case measure=>simp[intOf];omega
  ·have hke:k=T.length:=by omega
   subst hke;have hne:BW P T≠[]:=λh0=>by
    have:=sI List.length h0;unfold BW at this;rw[kZ,FV] at this;omega
   have L:(BW P T).length=T.length:=by unfold BW;rw[kZ]
   have u:=D.o.Sh;have hcm:((T.take T.length).map λx=>Value.int .i64 (mS P x))=(BW P T).map (Value.int .i64):=by unfold BW;rw[Jf,List.map_map];rfl
   rw[hcm,<-L] at u;obtain⟨gb,hgb,I, -⟩:=IR.SN hne u;have hIR0:=I;obtain⟨cap,cur,rfl, -, -, -⟩:=hIR0;have hab2:=D.o.ar.box.lt;have HSN:=aH (λ(W:World) (f:af [] wr W)=>(E2 (w:=W) (ab:=ab) (at_:=(A.taken:Int)+1+2) (st:=3) (Q8 hab2 f.size) (I.Rr f aS) (by rw[L];exact⟨s3,s4⟩)).mono (λe w' q=>(show∃B:F4,e= .returned (some B.kb)/\B.ab=ab/\wr.heap.size<=B.kb/\gv w' B ⟨BW P T,(A.taken:Int)+1+2,3⟩ ⟨0,false,0,0,0⟩/\af [] wr w' from by obtain⟨B,q1,q2,S,q4,q5⟩:=q;exact⟨B,q1,q2,dv f.size S,q4,f.trans q5⟩)));have HNX:=aH (λ(W:World) (f:af [] wr W)=>CR (w:=W) ((D.o.box.Rr f aS).cell (i:=1) rfl) (by have:=HTT.o;omega));have c3:=D.o.box.cell (i:=3) rfl;have c1:=D.o.box.cell (i:=1) rfl;have HIR:=aH I;have HNL:=aH L;clear hne L u hcm I hgb;go_wp2_with fail;go_region_with(first|(go_at_call 96;refine(HNX.o _ aD).mono ?_;rintro e w5 ⟨rfl,rfl⟩)|(go_at_call 95;(refine(HSN.o _ aD).mono ?_;rintro e w6 ⟨Bs,rfl,p,H,hSc,hF6⟩);have m:=D.o.box.Rr hF6 aS;have d4:=m.cell (i:=4) rfl;have dz:=m.frozen;have N:=aH m;have HSC:=aH hSc;have E:=aH hF6;have HBK:=aH (ae p H);clear hSc hF6 m p H))
   all_goals
    go_wp2;go_ret2;obtain⟨p,H⟩:=HBK.o;have l:af [lb] w6 (w6.setCell (lb,4) (.pointer (some ⟨Bs.kb,0,none⟩))):=aU;have d:=HSC.o;have q:∀{b:Nat}{vs:List Value}{U:TypeId},aq w6 b vs U->U≠223->b∉[lb]:=λh hu hm=>by
     have:=h.differ N.o hu;simp at hm;omega
    have hir:=HIR.o.Rr E.o aS;have hir2:IR (w6.setCell (lb,4) (.pointer (some ⟨Bs.kb,0,none⟩))) gb (.slice (some ⟨gb,0,none⟩) (BW P T).length cap) (BW P T):=by
     have h0:=hir;obtain⟨_,_,_,hh,_⟩:=hir;exact h0.Rr l (q hh aJ)
    have Q:=D.o.row.Rr E.o aS;have har:=D.o.ar.Rr E.o aS aS;have hM:(Pf P T A bud).n=T.length:=HNL.o;refine⟨⟨lb,w3.heap.size,gb,wb,Bs⟩,rfl,⟨p,rfl,dv HF.o.size H,hsz0⟩,{box:=⟨cap,?_⟩,Uy:=⟨_,hir2⟩,sc:={box:=d.box.Rr l (q d.box aJ),row:=d.row.Rr l (q d.row aJ),h1:=d.h1.Rr l (q d.h1 aJ),h2:=d.h2.Rr l (q d.h2 aJ),h3:=d.h3.Rr l (q d.h3 aJ),Ry:=d.Ry},row:=?_,ar:=?_,Ry:=by rw[hM];exact s4,tl:=by have:=HTT.o;show A.taken+1<=4096;omega},?_⟩
    ·rw[hM];show aq _ lb [some Bs.ab,_,_,_,_,_] _;rw[p];have:=N.o.set 4 (.pointer (some ⟨Bs.kb,0,none⟩));rw[HNL.o] at this;exact this
    ·rw[hM];exact Q.Rr l (q Q aJ)
    ·show ax _ Bs.ab wb _;rw[p];exact har.Rr l (q har.box aJ) (q har.row aJ)
    ·exact(HF.o.trans (E.o.mono aS)).set _ _ (.inr (by have:=G.o;show w.heap.size<=lb;omega))
end
end Go.Proofs.YteijjhahgabalaaGreat
