/- locks.make of a cna lock: kind 9. -/
import Derived.Test.YteijjhahgabalaaGreatWF28
import Derived.Test.YteijjhahgabalaaGreatWF31
set_option maxRecDepth 100000
set_option maxHeartbeats 8000000
set_option linter.all false
namespace Go.Proofs.YteijjhahgabalaaGreat
open Go.RowKit
open Tryz
theorem cS.lk{w w':World}{B:p5}{M:eh}{X:dq}{lk:Nat}{vs:List Value}(h:cS w B M X)(hl:aq w lk vs 119)(c:af [lk] w w'):cS w' B M X:=by
 have q:∀{b:Nat}{vs:List Value}{U:TypeId},aq w b vs U->U≠119->b∉[lk]:=λh g hm=>by
  have:=h.differ hl g;simp at hm;omega
 obtain⟨cap,e⟩:=h.box;obtain⟨v,hv⟩:=h.Uy;have d:=hv;obtain⟨_,_,_,f,_⟩:=hv;have a:=h.sc;exact{box:=⟨cap,e.Rr c (q e aJ)⟩,Uy:=⟨v,d.Rr c (q f aJ)⟩,sc:={box:=a.box.Rr c (q a.box aJ),row:=a.row.Rr c (q a.row aJ),h1:=a.h1.Rr c (q a.h1 aJ),h2:=a.h2.Rr c (q a.h2 aJ),h3:=a.h3.Rr c (q a.h3 aJ),Ry:=a.Ry},row:=h.row.Rr c (q h.row aJ),ar:=h.ar.Rr c (q h.ar.box aJ) (q h.ar.row aJ),Ry:=h.Ry,tl:=h.tl}
abbrev Eb(P T:List Int)(bud:Int):eh:=Pf P T (AR.fresh 4096) bud
abbrev KK(T:List Int):dq:=Re T (AR.fresh 4096)
theorem vG(P T:List Int)(A:AR)(bud:Int):(Pf P T A bud).n=T.length:=by show(BW P T).length=_;unfold BW;rw[kZ]
variable{P T:List Int}{g l par bud:Int}
theorem KJ(D:ea P T)(S:0<=bud/\bud<=1000):iQ P T 9 g l par bud (xO (Eb P T bud)) (KK T) where
 n:=vG _ _ _ _
 Tb:=by omega
 sh:=rfl
 S9:=λw ab wb lk x y J K r t _ _=>by
  have n1:lk≠ab:=t.differ r.box aJ;have W:lk≠wb:=t.differ r.row aJ;have q:=D.size;have a:=aH (((af.refl [] w).alloc (.cells #[x,y] 24)).alloc (.cells #[g,l,par,bud] 42));have M:=aH (CO (J.Rr a.o aS) (K.Rr a.o aS) D (r.Rr a.o aS aS) (by show 0+_<=(List.replicate 4096 (0:Int)).length;rw[lA];have:=q.2.2.2;omega) (by show 0<=3000;omega) S);have c:=(aq.new w #[x,y] 24).alloc (.cells #[g,l,par,bud] 42);have d:=aq.new (w.alloc (.cells #[x,y] 24)) #[g,l,par,bud] 42;rw[bP] at d;have F:=aH (t.Rr a.o aS);have c0:=F.o.cell (i:=0) rfl;have t0:=c.cell (i:=0) rfl;have t1:=c.cell (i:=1) rfl;have t3:=d.cell (i:=3) rfl;have h:=aH (show(Eb P T bud).n<=32 from by rw[vG];exact D.size.2.2.2);have p:=a.o.size;obtain⟨a1,G,rfl, -, -⟩:=J;obtain⟨a2,H,rfl, -, -⟩:=K;clear r t c d q;go_enter func57,ntmps57;go_wp2_with fail;refine M.o.mono ?_;rintro e w1 ⟨B,rfl,⟨j,k,m,o⟩,I,C⟩;have b:=F.o.Rr C aQ;have l0:=b.cell (i:=2) rfl;have V:=b.frozen;have u:=aH b;have L:=aH ((a.o.mono (S':=[ab,wb]) aS).trans C);have f:=aH (ae j (ae k (ae (dv p m) (dv p o))));have A:=aH (show∀v,cS (w1.setCell (lk,2) v) B (Eb P T bud) (KK T) fromλv=>I.lk b aU);clear C I b j k m o;go_wp2;go_ret;refine⟨(CM (Eb P T bud) B).alone 9,(CN h.o).SR 9 aO (λs i=>rfl),⟨f.o.1,rfl⟩,rfl,⟨by rw[show(xO (Eb P T bud)).n=T.length from vG _ _ _ _];exact u.o.set 2 _,A.o _⟩,λz U=>?_,(L.o.mono (S':=[ab,wb,lk]) aS).set _ _ (.inl aS)⟩;obtain⟨N,O,Q,R⟩:=f.o;have E:z=B.sc.kb\/z=B.sb\/z=B.ab\/z=B.wb:=by simpa[lm.alone,CM,ku] using U
  rcases E with e|e|e|e
  ·rw[e];exact .inr (.inr Q)
  ·rw[e];exact .inr (.inr R)
  ·rw[e];exact .inl N
  ·rw[e];exact .inr (.inl O)
theorem Ia(a:ea P T)(b:0<=bud/\bud<=1000):jO P T (.agg #[(9:Int),g,l,par,bud]) (xO (Eb P T bud)) (KK T) where
 ok:=PX _
 i0:=λ_ _=>.inl (by show(0:Int)<=0/\(0:Int)<=6;omega)
 S9:=λ_ _ _ c d=>gJ c d a (KJ a b)
theorem GD(a:ea P T)(bud:Int):jF (Eb P T bud) (KK T):=by
 obtain⟨s1,s2,s3,s4⟩:=a.size;have hn:(Eb P T bud).n=T.length:=vG _ _ _ _;have hl:(AR.fresh 4096).ws.length=4096:=lA;have ht:(KK T).A.taken=2+3*T.length:=jM _;have c:(KK T).A.ws.length=4096:=hl;have b:(Eb P T bud).tail=1:=rfl;refine⟨by omega,by omega,λj _=>.inl (by show(0:Int)<=0/\(0:Int)<=6;omega),⟨by show(0:Int)<=0;omega,by show(0:Int)<=_;omega⟩,λj _ e=>am e (by show¬(0:Int)=18;omega),_,NJ.zero (λ_=>rfl) ?_⟩;show(KK T).A.get _=0;unfold AR.get;split
 ·show(List.replicate 4096 (0:Int))[_]?.getD 0=0;rw[xo];split<;>rfl
 ·rfl
end Go.Proofs.YteijjhahgabalaaGreat
