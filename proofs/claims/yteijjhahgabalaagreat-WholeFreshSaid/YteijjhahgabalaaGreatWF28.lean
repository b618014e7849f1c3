/- The contracts of package cna: looks. (Printed by gen_cna.py.) -/
import Derived.WalkMore
import Derived.ScopeJumps
import Derived.Deep.DeepCutAuto
import Derived.Test.YteijjhahgabalaaGreatWF26
import Derived.Test.YteijjhahgabalaaGreatWF19
import Derived.Test.YteijjhahgabalaaGreatWF24
set_option maxRecDepth 100000
set_option maxHeartbeats 8000000
set_option linter.all false
namespace Go.Proofs.YteijjhahgabalaaGreat
open Go.RowKit
open Tryz
theorem ou{P:Program}{a:Act}{w:World}{Q:Exit->Act->World->Prop}{c rest:Code}(l:Nat)(b:findLabel c l=some rest)(first:c.wp P (Exit.jump l (λa w=>rest.wp P (Exit.noGoto Q) a w) Q) a w):(Code.scope c).wp P Q a w:=
 wp_scope_jumps l (λa w=>rest.wp P (Exit.noGoto Q) a w) (λ_ _=>0) b first (λa w h=>Code.wp_mono (λe a w q=>by cases e<;>first|exact q|exact q.elim) h)
section
variable{w w':World}{B:p5}{M:eh}{X:dq}
variable{K:xC}
theorem cS.scan(h:cS w B M X)(a:af [B.sc.kb] w w')(b:gv w' B.sc M.sc K):cS w' B M {X with K:=K}:=by
 have hn:=h.ne;have c:fF w [B.sc.kb]:=h.free.sub (by simp[ku]);exact h.re a c b (h.row.Rr a aQ) (h.ar.Rr a aQ aQ)
theorem cS.walk(h:cS w B M X){A:AR}(a:af [B.sc.kb,B.sc.ab,B.wb] w w')(c:gv w' B.sc M.sc K)(b:ax w' B.sc.ab B.wb A):cS w' B M ⟨A,X.S,K⟩:=by
 have hn:=h.ne;have d:fF w [B.sc.kb,B.sc.ab,B.wb]:=h.free.sub (by simp[ku,p5.ab]);refine h.re (X':=⟨A,X.S,K⟩) a d c (h.row.Rr a ?_) b;have e:B.sb≠B.sc.ab:=hn.2.2.2.1;simp;omega
theorem xP(h:cS w B M X){j:Nat}(hj:j<M.n)(o:X.S j 0=17)(p:M.bud<=(X.A.get (ao M))):Calls prog 291 #[some B.lb,.pointer (some ⟨B.sb,j*4,none⟩),((j:Int)+1:Int)] w λe w'=>e= .returned (mC (decide (0<X.S j 2)) 25 29:Int)/\cS w' B M ⟨X.A.load (ao M),aa X.S j 3 (X.A.get (ao M)),X.K⟩/\af (ku B) w w':=by
 obtain⟨cap,b⟩:=h.box;have c0:=b.cell (i:=0) rfl;have c2:=b.cell (i:=2) rfl;have c3:=b.cell (i:=3) rfl;have z:=b.cell (i:=4) rfl;have s:=h.row.cell (a9 M.n X.S (t:=0) hj aO);rw[ve,o] at s;have HJ:=aH hj;have r:=h.Ry;have l1:(j:Int)<M.n:=by omega
 have G:decide (M.n<=j)=false:=aB;have H:decide ((j:Int)<0)=false:=aB;have l4:decide ((M.n:Int)<=j)=false:=aB;have l5:IntKind.i64.wrap (j:Int)=j:=IntWalk.i64_in _ aO;have l:=aH (λ(W:World) (f:af [] w W)=>qv (h.same f));have m:=aH (λ(W:World) (f:af [] w W)=>(fh (h.same f).ar (ao M)).mono (λe w' q=>(show e=_/\cS w' B M {X with A:=X.A.load (ao M)}/\af [B.ab,B.wb] w w' from⟨q.1,(h.same f).R1 q.2.2 q.2.1,(f.mono aS).trans q.2.2⟩)));have v:=aH (ef p:decide (M.bud<=(X.A.get (ao M)))=true);clear p;clear h b o hj;go_enter func291,ntmps291;go_wp2_with fail;refine ou 1 rfl ?_;go_wp2_with fail
 go_cut[] (λu=>cS u B M ⟨X.A.load (ao M),aa X.S j 3 (X.A.get (ao M)),X.K⟩/\af (ku B) w u)
 case first=>
  go_region_with(first|(go_at_call 296;refine(l.o _ aD).mono ?_;rintro e w1 ⟨rfl,rfl⟩)|(go_at_call 106;refine(m.o _ aD).mono ?_;rintro e w2 ⟨rfl,a,d⟩;have E:=a.row.cell (a9 M.n X.S (t:=3) HJ.o aO);have F:=a.row.frozen;have g:=aH a;have k:=aH d;clear a d))
  all_goals
   have x:=aH (g.o.put j (t:=3) aO (X.A.get (ao M)));have y:=aH ((k.o.mono (S':=ku B) (by simp[ku,p5.ab])).set ⟨B.sb,j*4+3,none⟩ (.int .i64 (X.A.get (ao M))) (.inl (by simp[ku])));go_wp2_with fail
   go_meet
   exact⟨x.o,y.o⟩
 case rest=>
  obtain⟨a,d⟩:=hcut;have g:=aH a;have k:=aH d;obtain⟨n,c⟩:=a.box;have C:=c.cell (i:=2) rfl;have b3:=c.cell (i:=3) rfl;have D:=c.cell (i:=4) rfl;have k1:=a.row.cell (a9 M.n (aa X.S j 3 (X.A.get (ao M))) (t:=1) HJ.o aO);have k2:=a.row.cell (a9 M.n (aa X.S j 3 (X.A.get (ao M))) (t:=2) HJ.o aO);have k3:=a.row.cell (a9 M.n (aa X.S j 3 (X.A.get (ao M))) (t:=3) HJ.o aO);rw[show aa X.S j 3 (X.A.get (ao M)) j 1=X.S j 1 from by simp[aa]] at k1;rw[show aa X.S j 3 (X.A.get (ao M)) j 2=X.S j 2 from by simp[aa]] at k2;rw[show aa X.S j 3 (X.A.get (ao M)) j 3=(X.A.get (ao M)) from by simp[aa]] at k3;clear a d c l m s c0 c2 c3 z;have d1:=v.o;go_wp2_with fail
  go_quiet (fail)
  go_wp2_with fail
  go_step3
  refine⟨rfl,?_⟩;show Code.wp _ _ _ _ _;go_wp2_with fail;refine gF (xV _ _ _ _) ?_;rintro w3 rfl;go_wp2;rw[FW];go_ret;exact⟨rfl,g.o.same aD,k.o.trans aD⟩
theorem g9:(∀{w:World}{B:p5}{M:eh}{X:dq}(h:cS w B M X){j:Nat}(hj:j<M.n)(p:X.S j 0=17)(y:¬M.bud<=(X.A.get (ao M)))(z:(h7 M.sc X.K (X.S j 1) (M.N[j]?.getD 0)).Sk=false),Calls prog 291 #[some B.lb,.pointer (some ⟨B.sb,j*4,none⟩),((j:Int)+1:Int)] w λe w'=>e= .returned (23:Int)/\cS w' B M ⟨X.A.load (ao M),aa X.S j 3 (X.A.get (ao M)),h7 M.sc X.K (X.S j 1) (M.N[j]?.getD 0)⟩/\af (ku B) w w')/\(∀{w:World}{B:p5}{M:eh}{X:dq}(h:cS w B M X){j:Nat}(hj:j<M.n)(p:X.S j 0=17)(y:¬M.bud<=(X.A.get (ao M)))(z:(h7 M.sc X.K (X.S j 1) (M.N[j]?.getD 0)).Sk=true),Calls prog 291 #[some B.lb,.pointer (some ⟨B.sb,j*4,none⟩),((j:Int)+1:Int)] w λe w'=>e= .returned (18:Int)/\cS w' B M ⟨X.A.load (ao M),aa X.S j 3 (X.A.get (ao M)),h7 M.sc X.K (X.S j 1) (M.N[j]?.getD 0)⟩/\af (ku B) w w')/\(∀{w:World}{B:p5}{M:eh}{X:dq}(h:cS w B M X){j:Nat}(hj:j<M.n)(p:X.S j 0=18)(s:mb M.sc X.A X.K=false),Calls prog 291 #[some B.lb,.pointer (some ⟨B.sb,j*4,none⟩),((j:Int)+1:Int)] w λe w'=>e= .returned (18:Int)/\cS w' B M ⟨j9 M.sc X.A X.K,X.S,gD M.sc X.A X.K⟩/\af (ku B) w w')/\(∀{w:World}{B:p5}{M:eh}{X:dq}(h:cS w B M X){j:Nat}(hj:j<M.n)(p:X.S j 0=18)(s:mb M.sc X.A X.K=true)(g:(gD M.sc X.A X.K).fo≠0),Calls prog 291 #[some B.lb,.pointer (some ⟨B.sb,j*4,none⟩),((j:Int)+1:Int)] w λe w'=>e= .returned (19:Int)/\cS w' B M ⟨j9 M.sc X.A X.K,X.S,gD M.sc X.A X.K⟩/\af (ku B) w w')/\(∀{w:World}{B:p5}{M:eh}{X:dq}(h:cS w B M X){j:Nat}(hj:j<M.n)(p:X.S j 0=18)(s:mb M.sc X.A X.K=true)(g:(gD M.sc X.A X.K).fo=0),Calls prog 291 #[some B.lb,.pointer (some ⟨B.sb,j*4,none⟩),((j:Int)+1:Int)] w λe w'=>e= .returned (mC (decide (0<X.S j 2)) 25 29:Int)/\cS w' B M ⟨j9 M.sc X.A X.K,X.S,gD M.sc X.A X.K⟩/\af (ku B) w w'):=by
 refine⟨?_,?_,?_,?_,?_⟩;iterate 2
  intro w B M X h j hj p y z;rotate_left
 intro w B M X h j hj p s;rotate_left;iterate 2
  intro w B M X h j hj p s g;rotate_left
 all_goals
  obtain⟨cap,l⟩:=h.box;have c0:=l.cell (i:=0) rfl;have c2:=l.cell (i:=2) rfl;have c3:=l.cell (i:=3) rfl;have H:=l.cell (i:=4) rfl;have G:=h.row.cell (a9 M.n X.S (t:=0) hj aO);rw[ve,p] at G;have HJ:=aH hj;have Q:=h.Ry;have l1:(j:Int)<M.n:=by omega
  have l2:decide (M.n<=j)=false:=aB;have l3:decide ((j:Int)<0)=false:=aB;have l4:decide ((M.n:Int)<=j)=false:=aB;have l5:IntKind.i64.wrap (j:Int)=j:=IntWalk.i64_in _ aO
 have K:=aH (λ(W:World) (a:af [] w W)=>qv (h.same a));have N:=aH (λ(W:World) (a:af [] w W)=>(fh (h.same a).ar (ao M)).mono (λe w' q=>(show e=_/\cS w' B M {X with A:=X.A.load (ao M)}/\af [B.ab,B.wb] w w' from⟨q.1,(h.same a).R1 q.2.2 q.2.1,(a.mono aS).trans q.2.2⟩)));have u:=aH (λ(W x:World) (E:cS x B M ⟨X.A.load (ao M),aa X.S j 3 (X.A.get (ao M)),X.K⟩) (a:af [] x W)=>(pV (E.same a).sc (X.S j 1) (M.N[j]?.getD 0)).mono (λe w' q=>(show e= .returned true/\cS w' B M ⟨X.A.load (ao M),aa X.S j 3 (X.A.get (ao M)),h7 M.sc X.K (X.S j 1) (M.N[j]?.getD 0)⟩/\af [B.sc.kb] x w' from⟨by rw[q.1];show Ending.returned (Value.bool (!(h7 M.sc X.K (X.S j 1) (M.N[j]?.getD 0)).Sk))=_;rw[z];rfl,(E.same a).scan q.2.2 q.2.1,(a.mono aS).trans q.2.2⟩)));have P:=aH (dh y:decide (M.bud<=(X.A.get (ao M)))=false);clear y z;rotate_left;have K:=aH (λ(W:World) (a:af [] w W)=>qv (h.same a));have N:=aH (λ(W:World) (a:af [] w W)=>(fh (h.same a).ar (ao M)).mono (λe w' q=>(show e=_/\cS w' B M {X with A:=X.A.load (ao M)}/\af [B.ab,B.wb] w w' from⟨q.1,(h.same a).R1 q.2.2 q.2.1,(a.mono aS).trans q.2.2⟩)));have u:=aH (λ(W x:World) (E:cS x B M ⟨X.A.load (ao M),aa X.S j 3 (X.A.get (ao M)),X.K⟩) (a:af [] x W)=>(pV (E.same a).sc (X.S j 1) (M.N[j]?.getD 0)).mono (λe w' q=>(show e= .returned false/\cS w' B M ⟨X.A.load (ao M),aa X.S j 3 (X.A.get (ao M)),h7 M.sc X.K (X.S j 1) (M.N[j]?.getD 0)⟩/\af [B.sc.kb] x w' from⟨by rw[q.1];show Ending.returned (Value.bool (!(h7 M.sc X.K (X.S j 1) (M.N[j]?.getD 0)).Sk))=_;rw[z];rfl,(E.same a).scan q.2.2 q.2.1,(a.mono aS).trans q.2.2⟩)));have P:=aH (dh y:decide (M.bud<=(X.A.get (ao M)))=false);clear y z;rotate_left;have d:=aH (λ(W:World) (a:af [] w W)=>(nz (h.same a).sc (h.same a).ar).mono (λe w' q=>(show e= .returned false/\cS w' B M ⟨j9 M.sc X.A X.K,X.S,gD M.sc X.A X.K⟩/\af (ku B) w w' from⟨by rw[q.1,s],(h.same a).walk q.2.2.2 q.2.1 q.2.2.1,(a.mono aS).trans (q.2.2.2.mono (by simp[ku,p5.ab]))⟩)));rotate_left;have d:=aH (λ(W:World) (a:af [] w W)=>(nz (h.same a).sc (h.same a).ar).mono (λe w' q=>(show e= .returned true/\cS w' B M ⟨j9 M.sc X.A X.K,X.S,gD M.sc X.A X.K⟩/\af (ku B) w w' from⟨by rw[q.1,s],(h.same a).walk q.2.2.2 q.2.1 q.2.2.1,(a.mono aS).trans (q.2.2.2.mono (by simp[ku,p5.ab]))⟩)));have U:((gD M.sc X.A X.K).fo !=0)=true:=by simpa using g
 clear g;rotate_left;have d:=aH (λ(W:World) (a:af [] w W)=>(nz (h.same a).sc (h.same a).ar).mono (λe w' q=>(show e= .returned true/\cS w' B M ⟨j9 M.sc X.A X.K,X.S,gD M.sc X.A X.K⟩/\af (ku B) w w' from⟨by rw[q.1,s],(h.same a).walk q.2.2.2 q.2.1 q.2.2.1,(a.mono aS).trans (q.2.2.2.mono (by simp[ku,p5.ab]))⟩)));have U:((gD M.sc X.A X.K).fo !=0)=false:=by simpa using g
 clear g;rotate_left;all_goals
  clear h l p hj;go_enter func291,ntmps291;go_wp2_with fail
 rotate_left 2;iterate 3
  focus
   refine ou 0 rfl ?_;go_wp2_with fail
  rotate_left
 all_goals
  go_step3
 rotate_left 2;iterate 3
  refine⟨rfl,?_⟩;show Code.wp _ _ _ _ _;clear s;rotate_left
 all_goals
  go_wp2_with fail
 iterate 2
  focus
   go_cut[] (λR=>cS R B M ⟨X.A.load (ao M),aa X.S j 3 (X.A.get (ao M)),X.K⟩/\af (ku B) w R)
   case first=>
    go_region_with(first|(go_at_call 296;refine(K.o _ aD).mono ?_;rintro e w1 ⟨rfl,rfl⟩)|(go_at_call 106;refine(N.o _ aD).mono ?_;rintro e w2 ⟨rfl,b,f⟩;have Y:=b.row.cell (a9 M.n X.S (t:=3) HJ.o aO);have Z:=b.row.frozen;have m:=aH b;have n:=aH f;clear b f))
    all_goals
     have S:=aH (m.o.put j (t:=3) aO (X.A.get (ao M)));have T:=aH ((n.o.mono (S':=ku B) (by simp[ku,p5.ab])).set ⟨B.sb,j*4+3,none⟩ (.int .i64 (X.A.get (ao M))) (.inl (by simp[ku])));go_wp2_with fail
     go_meet
     exact⟨S.o,T.o⟩
   case rest=>
    obtain⟨b,f⟩:=hcut;have m:=aH b;have n:=aH f;obtain⟨k,c⟩:=b.box;have V:=c.cell (i:=2) rfl;have b3:=c.cell (i:=3) rfl;have O:=c.cell (i:=4) rfl;have k1:=b.row.cell (a9 M.n (aa X.S j 3 (X.A.get (ao M))) (t:=1) HJ.o aO);have k2:=b.row.cell (a9 M.n (aa X.S j 3 (X.A.get (ao M))) (t:=2) HJ.o aO);have k3:=b.row.cell (a9 M.n (aa X.S j 3 (X.A.get (ao M))) (t:=3) HJ.o aO);rw[show aa X.S j 3 (X.A.get (ao M)) j 1=X.S j 1 from by simp[aa]] at k1;rw[show aa X.S j 3 (X.A.get (ao M)) j 2=X.S j 2 from by simp[aa]] at k2;rw[show aa X.S j 3 (X.A.get (ao M)) j 3=(X.A.get (ao M)) from by simp[aa]] at k3;clear b f c K N G c0 c2 c3 H;have d1:=P.o;have L:=aH (λ(W:World) (a:af [] wc W)=>u.o W wc m.o a);obtain⟨v,cp,cur, -,r, -,F⟩:=m.o.Uy;have g1:=r.cell (i:=j) (F j HJ.o);clear u r F;go_wp2_with fail
    go_quiet (fail)
    go_wp2_with fail;go_region_with(go_at_call 297;refine(L.o _ aD).mono ?_;rintro e w4 ⟨rfl,C,D⟩;have I:=aH C;have J:=aH (n.o.trans (D.mono (S':=ku B) (by simp[ku])));clear C D)
    all_goals
     go_wp2;rw[FW];go_ret;exact⟨rfl,I.o.same aD,J.o.trans aD⟩
 ·refine(d.o _ aD).mono ?_;rintro e w2 ⟨rfl,b,f⟩;obtain⟨k,c⟩:=b.box;have O:=c.cell (i:=4) rfl;have k2:=b.row.cell (a9 M.n X.S (t:=2) HJ.o aO);clear c G c0 c2 c3 H d;have o:=aH (λ(W:World) (a:af [] w2 W)=>qL (b.same a).sc);have m:=aH b;have n:=aH f;clear b f;go_wp2;rw[FW];go_ret;exact⟨rfl,m.o.same aD,n.o.trans aD⟩
 ·refine(d.o _ aD).mono ?_;rintro e w2 ⟨rfl,b,f⟩;obtain⟨k,c⟩:=b.box;have O:=c.cell (i:=4) rfl;have k2:=b.row.cell (a9 M.n X.S (t:=2) HJ.o aO);clear c G c0 c2 c3 H d;have o:=aH (λ(W:World) (a:af [] w2 W)=>qL (b.same a).sc);have m:=aH b;have n:=aH f;clear b f;go_wp2_with fail;refine gF (o.o _ aD) ?_;rintro w3 rfl;go_wp2;rw[FW];go_ret;exact⟨rfl,m.o.same aD,n.o.trans aD⟩
 ·refine(d.o _ aD).mono ?_;rintro e w2 ⟨rfl,b,f⟩;obtain⟨k,c⟩:=b.box;have O:=c.cell (i:=4) rfl;have k2:=b.row.cell (a9 M.n X.S (t:=2) HJ.o aO);clear c G c0 c2 c3 H d;have o:=aH (λ(W:World) (a:af [] w2 W)=>qL (b.same a).sc);have m:=aH b;have n:=aH f;clear b f;go_wp2_with fail;refine gF (o.o _ aD) ?_;rintro w3 rfl;go_wp2_with fail
  go_step3
  go_wp2_with fail;refine gF (xV _ _ _ _) ?_;rintro w3 rfl;go_wp2;rw[FW];go_ret;exact⟨rfl,m.o.same aD,n.o.trans aD⟩
def xQ:= @g9.1
def xR:= @g9.2.1
def xS:= @g9.2.2.1
def xT:= @g9.2.2.2.1
def xU:= @g9.2.2.2.2
end
section
variable{w0 w w':World}{B:p5}{M:eh}{X X':dq}{cap j:Nat}{r:Int}
theorem Rd(hj:j<M.n):Ct (cW w0 B M cap) 285 #[some B.lb,j] X (.agg #[(X.S j 0:Int),(X.S j 1:Int),(X.S j 2:Int),(X.S j 3:Int)]) X:=λw h=>(CP h.1 hj).mono λe w' ⟨h1,h2⟩=>⟨h1,h.to h2 aS (h.1.same h2)⟩
theorem PB{p:Prop}(t:Nat)(h:Tg t->p:=by
 intro HT w HS;obtain⟨CK,DR,DA,HA,Pa,Pb,Pc,Pd,CZ,RA,RP⟩:=cI HS hj;have C:=CK.o HS;replace HS:=aH HS;exact gW):p:=h ⟨⟩
theorem MJ(hj:j<M.n)(fr c:Int):Ct (cW w0 B M cap) 288 #[some B.lb,j,fr,c] X (.bool (ai M.n X.S j fr)) {X with S:=bo M.n X.S j fr c}:=by
 unfold bo ai;rw[cl hj,cH,gS];by_cases a:X.S j 0=fr
 ·rw[ef a,ad rfl];subst a;exact nM 0
 ·rw[dh a,ac Bool.false_ne_true];exact nM 0
theorem MR(hj:j<M.n):Ct (cW w0 B M cap) 283 #[some B.lb,j] X (.bool (ai M.n X.S j 0)) {X with S:=bo M.n X.S j 0 1}:=have K9:=aH (MJ (w0:=w0) (B:=B) (cap:=cap) (X:=X) hj 0 1);nM 0
theorem GC(hj:j<M.n):Ct (cW w0 B M cap) 284 #[some B.lb,j] X (.bool (ai M.n X.S j 10)) {X with S:=bo M.n X.S j 10 11}:=have K9:=aH (MJ (w0:=w0) (B:=B) (cap:=cap) (X:=X) hj 10 11);nM 0
theorem O8{N:Nat}{args:Array Value}(hj:j<M.n)(i:¬X.S j 0=0)(h1:¬X.S j 0=10)(f:N=289/\args=#[.pointer (some ⟨B.lb,0,none⟩),.pointer (some ⟨B.sb,j*4,none⟩),.int .i64 ((j:Int)+1)]/\X.S j 0<10\/N=290/\args=#[.pointer (some ⟨B.lb,0,none⟩),.pointer (some ⟨B.sb,j*4,none⟩),.int .i64 ((j:Int)+1)]/\¬X.S j 0<10/\X.S j 0<=16\/N=291/\args=#[.pointer (some ⟨B.lb,0,none⟩),.pointer (some ⟨B.sb,j*4,none⟩),.int .i64 ((j:Int)+1)]/\¬X.S j 0<10/\¬X.S j 0<=16/\X.S j 0<=18\/N=292/\args=#[.pointer (some ⟨B.lb,0,none⟩),.pointer (some ⟨B.sb,j*4,none⟩)]/\¬X.S j 0<10/\¬X.S j 0<=16/\¬X.S j 0<=18)
 (K:Ct (cW w0 B M cap) N args X (.int .i64 r) X'):Ct (cW w0 B M cap) 286 #[some B.lb,j] X (.bool (r==0||r==10)) {X' with S:=aa X'.S j 0 r}:=by
 have K8:=aH K;clear K;have K9:=aH (Rd (w0:=w0) (B:=B) (cap:=cap) (X:=X) hj);have g:=dF;have e:r=0\/r=10\/(¬r=0/\¬r=10/\(r==0||r==10)=false):=by
  by_cases a:r=0
  ·exact .inl a
  ·by_cases c:r=10
   ·exact .inr (.inl c)
   ·exact .inr (.inr ⟨a,c,by simp[a,c]⟩)
 rcases f with⟨rfl,rfl,h2⟩|⟨rfl,rfl,h2,h3⟩|⟨rfl,rfl,h2,h3,h4⟩|⟨rfl,rfl,h2,h3,h4⟩<;>rcases e with rfl|rfl|⟨a,c,d⟩<;>(try rw[d];clear d)<;>exact PB 99
end
section
variable{w0 w w':World}{B:p5}{M:eh}{X X':dq}{cap j:Nat}{r:Int}
theorem MN(hj:j<M.n)(h:X.S j 0=17):Ct (cW w0 B M cap) 291 #[some B.lb,.pointer (some ⟨B.sb,j*4,none⟩),((j:Int)+1:Int)] X (.int .i64 (kD M X j).2) (kD M X j).1:=qe (λb w a=>(xP a.1 hj h b).mono λe w' ⟨h1,h2,h3⟩=>⟨h1,a.to h3 (λ_ h=>h) h2⟩) λb w a=>by
 by_cases c:(h7 M.sc X.K (X.S j 1) (M.N[j]?.getD 0)).Sk=true
 ·rw[ad c];exact(xR a.1 hj h b c).mono λe w' ⟨h1,h2,h3⟩=>⟨h1,a.to h3 (λ_ h=>h) h2⟩
 ·rw[ac c];exact(xQ a.1 hj h b (by simpa using c)).mono λe w' ⟨h1,h2,h3⟩=>⟨h1,a.to h3 (λ_ h=>h) h2⟩
theorem MO(hj:j<M.n)(h:X.S j 0=18):Ct (cW w0 B M cap) 291 #[some B.lb,.pointer (some ⟨B.sb,j*4,none⟩),((j:Int)+1:Int)] X (.int .i64 (m9 M X j).2) (m9 M X j).1:=λw a=>by
 unfold m9;by_cases b:mb M.sc X.A X.K=true
 ·rw[ad b];by_cases c:(gD M.sc X.A X.K).fo=0
  ·rw[ad c];exact(xU a.1 hj h b c).mono λe w' ⟨h1,h2,h3⟩=>⟨h1,a.to h3 (λ_ h=>h) h2⟩
  ·rw[ac c];exact(xT a.1 hj h b c).mono λe w' ⟨h1,h2,h3⟩=>⟨h1,a.to h3 (λ_ h=>h) h2⟩
 ·rw[ac b];exact(xS a.1 hj h (by simpa using b)).mono λe w' ⟨h1,h2,h3⟩=>⟨h1,a.to h3 (λ_ h=>h) h2⟩
theorem MM(hj:j<M.n)(h:1<=X.S j 0/\X.S j 0<=6):Ct (cW w0 B M cap) 289 #[some B.lb,.pointer (some ⟨B.sb,j*4,none⟩),((j:Int)+1:Int)] X (.int .i64 (bq M X j).2) (bq M X j).1:=by
 rcases(show X.S j 0=1\/X.S j 0=2\/X.S j 0=3\/X.S j 0=4\/X.S j 0=5\/X.S j 0=6 by omega) with q|q|q|q|q|q
 ·rw[show bq M X j=tf M X j by unfold bq;simp[q]];exact cn1 hj q
 ·rw[show bq M X j=tg M X j by unfold bq;simp[q]];exact cn2 hj q
 ·rw[show bq M X j=rc M X j by unfold bq;simp[q]];exact cn3 hj q
 ·rw[show bq M X j=tj M X j by unfold bq;simp[q]];exact cn4 hj q
 ·rw[show bq M X j=rf M X j by unfold bq;simp[q]];exact cn5 hj q
 ·rw[show bq M X j=tm M X j by unfold bq;simp[q]];exact cn6 hj q
theorem Gw(hj:j<M.n)(h:11<=X.S j 0/\X.S j 0<=16):Ct (cW w0 B M cap) 290 #[some B.lb,.pointer (some ⟨B.sb,j*4,none⟩),((j:Int)+1:Int)] X (.int .i64 (bq M X j).2) (bq M X j).1:=by
 rcases(show X.S j 0=11\/X.S j 0=12\/X.S j 0=13\/X.S j 0=14\/X.S j 0=15\/X.S j 0=16 by omega) with q|q|q|q|q|q
 ·rw[show bq M X j=oL M X j by unfold bq;simp[q]];exact PD hj q
 ·rw[show bq M X j=lL M X j by unfold bq;simp[q]];exact PE hj q
 ·rw[show bq M X j=m6 M X j by unfold bq;simp[q]];exact PF hj q
 ·rw[show bq M X j=oM M X j by unfold bq;simp[q]];exact PG hj q
 ·rw[show bq M X j=m7 M X j by unfold bq;simp[q]];exact PH hj q
 ·rw[show bq M X j=m8 M X j by unfold bq;simp[q]];exact PJ hj q
theorem CD(hj:j<M.n)(h:17<=X.S j 0/\X.S j 0<=18):Ct (cW w0 B M cap) 291 #[some B.lb,.pointer (some ⟨B.sb,j*4,none⟩),((j:Int)+1:Int)] X (.int .i64 (bq M X j).2) (bq M X j).1:=by
 rcases(show X.S j 0=17\/X.S j 0=18 by omega) with q|q
 ·rw[show bq M X j=kD M X j by unfold bq;simp[q]];exact MN hj q
 ·rw[show bq M X j=m9 M X j by unfold bq;simp[q]];exact MO hj q
theorem CA(hj:j<M.n)(h:19<=X.S j 0/\X.S j 0<=30):Ct (cW w0 B M cap) 292 #[some B.lb,.pointer (some ⟨B.sb,j*4,none⟩)] X (.int .i64 (bq M X j).2) (bq M X j).1:=by
 rcases(show X.S j 0=19\/X.S j 0=20\/X.S j 0=21\/X.S j 0=22\/X.S j 0=23\/X.S j 0=24\/X.S j 0=25\/X.S j 0=26\/X.S j 0=27\/X.S j 0=28\/X.S j 0=29\/X.S j 0=30 by omega) with q|q|q|q|q|q|q|q|q|q|q|q
 ·rw[show bq M X j=na M X j by unfold bq;simp[q]];exact PK hj q
 ·rw[show bq M X j=oN M X j by unfold bq;simp[q]];exact PL hj q
 ·rw[show bq M X j=oO M X j by unfold bq;simp[q]];exact PM hj q
 ·rw[show bq M X j=oP M X j by unfold bq;simp[q]];exact PN hj q
 ·rw[show bq M X j=oQ M X j by unfold bq;simp[q]];exact PO hj q
 ·rw[show bq M X j=oR M X j by unfold bq;simp[q]];exact PP hj q
 ·rw[show bq M X j=oS M X j by unfold bq;simp[q]];exact PQ hj q
 ·rw[show bq M X j=oT M X j by unfold bq;simp[q]];exact PR hj q
 ·rw[show bq M X j=oU M X j by unfold bq;simp[q]];exact PS hj q
 ·rw[show bq M X j=oV M X j by unfold bq;simp[q]];exact PU hj q
 ·rw[show bq M X j=oW M X j by unfold bq;simp[q]];exact PV hj q
 ·rw[show bq M X j=oX M X j by unfold bq;simp[q]];exact PW hj q
theorem GE(hj:j<M.n)(d:cq (X.S j 0)):Ct (cW w0 B M cap) 286 #[some B.lb,j] X (.bool (js M X j)) (an M X j):=by
 have K9:=aH (Rd (w0:=w0) (B:=B) (cap:=cap) (X:=X) hj);have c:=dF;unfold js an bh;by_cases a:X.S j 0=0
 ·rw[show(X.S j 0==0)=true by simpa using a];exact PB 99
 by_cases h1:X.S j 0=10
 ·rw[show(X.S j 0==10)=true by simpa using h1,Bool.not_true,Bool.and_false];exact PB 99
 rw[show(X.S j 0==0)=false by simpa using a,show(X.S j 0==10)=false by simpa using h1];clear K9 c;unfold cq at d;rcases(show(1<=X.S j 0/\X.S j 0<=6)\/(11<=X.S j 0/\X.S j 0<=16)\/(17<=X.S j 0/\X.S j 0<=18)\/(19<=X.S j 0/\X.S j 0<=30) by omega) with q|q|q|q
 ·exact O8 hj a h1 (.inl ⟨rfl,rfl,by omega⟩) (MM hj q)
 ·exact O8 hj a h1 (.inr (.inl ⟨rfl,rfl,by omega,by omega⟩)) (Gw hj q)
 ·exact O8 hj a h1 (.inr (.inr (.inl ⟨rfl,rfl,by omega,by omega,by omega⟩))) (CD hj q)
 ·exact O8 hj a h1 (.inr (.inr (.inr ⟨rfl,rfl,by omega,by omega,by omega⟩))) (CA hj q)
end
section
variable{M:eh}{X:dq}{j:Nat}
variable{b:Int}
theorem JX{c:Bool}{a:Int}(ha:cq a)(d:cq b):cq (mC c a b):=by
 unfold mC;split
 ·exact ha
 ·exact d
theorem vF(Q:dq×Int->Prop)(b:Q (X,X.S j 0))(h:∀A K r,cq r->Q (⟨A,X.S,K⟩,r))(a:∀A K t v r,cq r->Q (⟨A,aa X.S j t v,K⟩,r)):Q (bq M X j):=by
 unfold bq tf tg rc tj rf tm oL lL m6 oM m7 m8 kD m9 na oN oO oP oQ oR oS oT oU oV oW oX
 repeat' (refine qB Q ?_ ?_)
 all_goals first|exact b|exact h _ _ _ (by unfold cq;omega)|exact a _ _ _ _ _ (by unfold cq;omega)|(refine h _ _ _ ?_)|(refine a _ _ _ _ _ ?_)
 all_goals repeat' (first|(refine JX ?_ ?_)|(unfold cq;omega)|(refine qB cq ?_ ?_))
theorem GB(h:cq (X.S j 0)):cq (bq M X j).2:=vF (λx=>cq x.2) h (λ_ _ _ a=>a) (λ_ _ _ _ _ a=>a)
theorem CJ{i:Nat}(h:i≠j):(bq M X j).1.S i 0=X.S i 0:=
 vF (λx=>x.1.S i 0=X.S i 0) rfl (λ_ _ _ _=>rfl) (λ_ _ t v _ _=>by show aa X.S j t v i 0=X.S i 0;unfold aa;rw[ac (λe=>h e.1)])
variable{n:Nat}{S:Nat->Nat->Int}
theorem JZ(h:∀j,j<n->cq (S j 0)){v:Int}(hv:cq v)(a:Nat):∀j,j<n->cq (aa S a 0 v j 0):=λj hj=>by
 unfold aa;split
 ·exact hv
 ·exact h j hj
theorem zg(h:∀j,j<n->cq (S j 0))(i a:Int)(c:cq b):∀j,j<n->cq (bo n S i a b j 0):=by
 unfold bo;split
 ·exact JZ h c _
 ·exact h
theorem GF(h:∀j,j<M.n->cq (X.S j 0))(hj:j<M.n):∀i,i<M.n->cq ((an M X j).S i 0):=λi hi=>by
 unfold an
 split
 ·show cq (aa (bq M X j).1.S j 0 (bq M X j).2 i 0);unfold aa;by_cases e:i=j
  ·rw[ad ⟨e,rfl⟩];exact GB (h j hj)
  ·rw[ac (λq=>e q.1),CJ e];exact h i hi
 ·exact h i hi
end
def xO(M:eh):LP where
 σ:=dq
 n:=M.n
 shares:=false
 ar:=λs=>s.A
 I:=λ_ s=>∀j,j<M.n->cq (s.S j 0)
 Sr:=λs i _=>ai M.n s.S i 0
 R3:=λs i _=>{s with S:=bo M.n s.S i 0 1}
 RZ:=λs i=>ai M.n s.S i 10
 Rz:=λs i=>{s with S:=bo M.n s.S i 10 11}
 RD:=λs i=>js M s i.toNat
 Ru:=λs i=>an M s i.toNat
 sp:=λs i t=>s.S i.toNat t
 Ta:=λs i=>if s.S i.toNat 0=10 then 1 else 0
theorem PX(M:eh):(xO M).Ok:=by
 refine LP.Sq (λk s a h=>h) (λk s j r a h hj _=>zg h _ _ (.inl aO)) (λk s j a h hj=>zg h _ _ (.inr aO)) (λk s j a h hj=>?_);exact GF (X:=s) h (j:=(j:Int).toNat) hj
section
variable{w:World}{B:p5}{M:eh}
def CM(M:eh)(B:p5):lm (xO M) where
 T:=180
 q:=.pointer (some ⟨B.lb,0,none⟩)
 Z:=ku B
 ab:=B.ab
 wb:=B.wb
 At:=λw s=>cS w B M s
 Sa:=283
 Sp:=.pointer (some ⟨B.lb,0,none⟩)
 RB:=284
 RM:=.pointer (some ⟨B.lb,0,none⟩)
 RR:=286
 R6:=.pointer (some ⟨B.lb,0,none⟩)
 RO:=285
 R5:=.pointer (some ⟨B.lb,0,none⟩)
 RL:=0
 R0:=.nilIface
theorem CN(hn:M.n<=32):(CM M B).Ok where
 Ry:=hn
 sh:=rfl
 Sw:=λF w=>by kernel_rfl
 RW:=λF w=>by kernel_rfl
 RK:=λF w=>by kernel_rfl
 R7:=λF w=>by kernel_rfl
 SC:=λargs w=>by kernel_rfl
 R2:=λargs w=>by kernel_rfl
 Se:=λargs w=>by kernel_rfl
 R9:=λargs w=>by kernel_rfl
 St:=λw k s i b ha hi=>by
  obtain⟨j,rfl,hj⟩:=cX hi;obtain⟨cap,a⟩:=ha.box;exact(MR hj w ⟨ha,a,aF⟩).mono λe w' h=>⟨h.1,h.2.1,h.2.2.2⟩
 RV:=λw k s i b ha hi=>by
  obtain⟨j,rfl,hj⟩:=cX hi;obtain⟨cap,a⟩:=ha.box;exact(GC hj w ⟨ha,a,aF⟩).mono λe w' h=>⟨h.1,h.2.1,h.2.2.2⟩
 Sc:=λw k s i b ha hi=>by
  obtain⟨j,rfl,hj⟩:=cX hi;obtain⟨cap,a⟩:=ha.box;exact(GE hj (b j hj) w ⟨ha,a,aF⟩).mono λe w' h=>⟨h.1,h.2.1,h.2.2.2⟩
 R8:=λw s i ha hi=>by
  obtain⟨j,rfl,hj⟩:=cX hi;exact CP ha hj
 ar:=λw s ha=>cS.ar ha
 free:=λw s ha=>cS.free ha
 stay:=λw w' s S ha c hs d=>cS.stays ha c hs d
end
abbrev CQ(M:eh)(A:AR)(c:Nat)(p:Nat):Int:=A.get ((M.tail:Int)+3*p+c)
def oB(M:eh)(X:dq):NV:=⟨λp=>X.S p 0,λp=>X.S p 1,λp=>X.S p 2,λp=>X.S p 3,CQ M X.A 2,CQ M X.A 3,CQ M X.A 4,X.A.get M.tail,X.K.last,X.K.fo⟩
structure jF(M:eh)(X:dq):Prop where
 ws:X.A.taken<=X.A.ws.length
 lay:1<=M.tail/\M.tail+1+3*M.n<=X.A.taken/\M.tail<=4096/\M.n<=32
 RC:∀j,j<M.n->cq (X.S j 0)
 ps:0<=X.K.ps/\X.K.ps<=M.n
 Sk:∀j,j<M.n->X.S j 0=18->X.K.Sk=true/\X.K.fo=0
 nj:∃G,NJ M.n (oB M X) G
def bG(M:eh)(X:dq)(j:Nat):Prop:=X.S j 0=5/\CQ M X.A 3 j=0\/X.S j 0=16/\CQ M X.A 2 j=0
def fJ(M:eh)(X:dq)(j:Nat):Nat:=
 let p:=(X.S j 0).toNat
 if p=0 then 0 else if p<=4 then M.n+20 - p else if p=5\/p=6 then M.n+15 else if p=10 then M.n+14 else if p<=12 then M.n+24 - p else if p=13\/p=15 then M.n+10 else if p=14 then M.n+11 else if p<=17 then M.n+25 - p
 else if p=18 then M.n+7 - X.K.ps.toNat else if p<=24 then 25 - p else if p<=28 then 29 - p else 31 - p
structure Wr(A B:AR)(a v:Int):Prop where
 tk:B.taken=A.taken/\B.ws.length=A.ws.length
 g:∀i,B.get i=if i=a then v else A.get i
section
variable{M:eh}{X:dq}{j:Nat}{A:AR}{a v:Int}
theorem Wr.load(i:Int):Wr A (A.load i) a (A.get a):=⟨by unfold AR.load AR.note;split<;>simp,λx=>by rw[aw];split<;>simp[*]⟩
theorem Wr.store(b:A.taken<=A.ws.length)(hi:A.has a=true):Wr A (A.store a v) a v:=⟨by unfold AR.store AR.put AR.note;split<;>simp,λx=>bU b hi⟩
theorem Wr.swap(b:A.taken<=A.ws.length)(hi:A.has a=true):Wr A (A.swap a v) a v:=⟨by unfold AR.swap AR.put AR.note;split<;>simp,λx=>jX b hi⟩
theorem Wr.add(b:A.taken<=A.ws.length)(hi:A.has a=true)(d:Int):Wr A (A.add a d) a (wrap64 (A.get a+d)):=⟨by unfold AR.add AR.put AR.note;split<;>simp,λx=>iB b hi⟩
theorem Wr.Sd(b:A.taken<=A.ws.length)(hi:A.has a=true)(o:Int):Wr A (A.Sd a o v) a (if A.get a=o then v else A.get a):=⟨by unfold AR.Sd AR.put AR.note;split<;>(try split)<;>simp,λx=>by rw[mt b hi];split<;>split<;>(try split)<;>simp_all⟩
variable{p:Nat}
theorem fC(h:jF M X)(b:p<M.n):bT M ((p:Int)+1)=(M.tail:Int)+3*p+(2:Nat)/\cB M ((p:Int)+1)=(M.tail:Int)+3*p+(3:Nat)/\dS M ((p:Int)+1)=(M.tail:Int)+3*p+(4:Nat):=by
 have:=h.lay;unfold bT cB dS wrap64;omega
theorem OL(h:jF M X)(b:p<M.n):ny M.sc ((p:Int)+1)=(M.tail:Int)+3*p+(2:Nat):=by
 have:=h.lay;unfold ny eh.sc wrap64;simp only;omega
theorem lM(h:jF M X):X.A.has M.tail=true/\X.A.has (ao M)=true/\∀p,p<M.n->∀c:Nat,2<=c->c<=4->X.A.has ((M.tail:Int)+3*p+c)=true:=by
 have:=h.lay;refine⟨a6.2 aO,a6.2 (by unfold ao wrap64;omega),λp b c h1 h2=>a6.2 aO⟩
theorem JY(h:jF M X)(hj:j<M.n){Y:dq}{G:NG}(g:Y.A.taken=X.A.taken/\Y.A.ws.length=X.A.ws.length)(ho:∀i,i≠j->∀t,Y.S i t=X.S i t)(d:cq (Y.S j 0))(c:0<=Y.K.ps/\Y.K.ps<=M.n)(f:∀i,i<M.n->Y.S i 0=18->Y.K.Sk=true/\Y.K.fo=0)(b:NJ M.n (oB M Y) G):jF M Y:=
 ⟨by have:=h.ws;omega,by have:=h.lay;omega,λi hi=>by
  by_cases e:i=j
  ·subst e;exact d
  ·rw[ho i e];exact h.RC i hi,c,f,G,b⟩
end
section
variable{M:eh}{X Y:dq}{j:Nat}{A:AR}{a v:Int}{G:NG}
def dB(M:eh)(X:dq)(j:Nat):Prop:=jF M (an M X j)/\(X.S j 0≠0->X.S j 0≠10->bG M X j\/sm (fJ M (an M X j)) M.n<sm (fJ M X) M.n)/\
 (bG M X j->sm (fJ M (an M X j)) M.n<=sm (fJ M X) M.n/\∀i,(bG M X i->bG M (an M X j) i)/\(an M X j).S i 0=X.S i 0)/\fH X.S (an M X j).S j (js M X j)
theorem CU{i:Nat}(c:X.S i 0=18->Y.K=X.K)(ho:Y.S i 0=X.S i 0):fJ M Y i=fJ M X i:=by
 unfold fJ;rw[ho];by_cases e:X.S i 0=18
 ·rw[c e]
 ·have b:¬(X.S i 0).toNat=18:=by omega
  simp only[ac b]
theorem Jl(hm:X.S j 0≠0/\X.S j 0≠10):js M X j=true↔(an M X j).S j 0=0\/(an M X j).S j 0=10:=by
 have e:bh X j=true:=by unfold bh;simp[hm]
 unfold js an;rw[e];simp[ag]
variable{c:Int}
theorem kF(h:jF M X)(hj:j<M.n)(e:an M X j=Y)(n:Y.A.taken=X.A.taken/\Y.A.ws.length=X.A.ws.length)(ho:∀i,i≠j->∀t,Y.S i t=X.S i t)(l:0<=Y.K.ps/\Y.K.ps<=M.n)(o:∀i,i<M.n->Y.S i 0=18->Y.K.Sk=true/\Y.K.fo=0)(d:NJ M.n (oB M Y) G){c':Int}(q:X.S j 0=c)(b:Y.S j 0=c')(u:c≠0/\c≠10/\(c<10->1<=c'/\c'<=10)/\(10<c->c'=0\/10<c'))(m:cq c')(hd:fJ M Y j<fJ M X j)(k:∀i,i<M.n->i≠j->X.S i 0=18->Y.K=X.K)(p:¬bG M X j):dB M X j:=by
 have r:=Jl (M:=M) (X:=X) (j:=j) ⟨by omega,by omega⟩;unfold dB;rw[e] at r⊢;refine⟨JY h hj n ho (b ▸ m) l o d,λ_ _=>.inr ?_,λs=>am s p,λi hi=>ho i hi 0,λ_ _=>?_,λ_=>?_,λ_=>by omega⟩
 ·have:=cd (f:=fJ M X) (g:=fJ M Y) hj λi hi ne=>CU (k i hi ne) (ho i ne 0);omega
 ·rw[r];omega
 ·rw[r];omega
variable{B:AR}{S:Nat->Nat->Int}
theorem da(h:jF M X)(hj:j<M.n)(e:an M X j=⟨B,S,X.K⟩)(m:B.taken=X.A.taken/\B.ws.length=X.A.ws.length)(ho:∀i,i≠j->∀t,S i t=X.S i t)(g:NJ M.n (oB M ⟨B,S,X.K⟩) G)(c':Int)(k:X.S j 0=c)(b:S j 0=c')(d:c≠0/\c≠10/\c'≠18/\(c<10->1<=c'/\c'<=10)/\(10<c->c'=0\/10<c'))(l:cq c')(hd:fJ M ⟨B,S,X.K⟩ j<fJ M X j)(n:¬bG M X j):dB M X j:=
 kF h hj e m ho h.ps (λi hi hs=>by
  by_cases f:i=j
  ·subst f;exact am (b.symm.trans hs) d.2.2.1
  ·exact h.Sk i hi ((ho i f 0).symm.trans hs)) g k b ⟨d.1,d.2.1,d.2.2.2⟩ l hd (λ_ _ _ _=>rfl) n
variable{n:Nat}{u b:NV}
theorem cL(h:NJ n u G)(e:b=u:=by
 unfold oB;rw[NV.mk.injEq];refine⟨?_,?_,?_,?_,?_,?_,?_,?_,?_,?_⟩<;>first|with_reducible rfl|(funext q;simp[ag,up,CQ,aw];done)|(simp[aw];done)):NJ n b G:=e ▸ h
theorem sT(h:NJ n u G)(e:b=u:=by
 unfold oB;rw[NV.mk.injEq];refine⟨?_,?_,?_,?_,?_,?_,?_,?_,?_,?_⟩<;>first|with_reducible rfl|(funext q;simp[ag,up];done)|(funext q;simp only[CQ,w1.g,up];(repeat' split)<;>first|rfl|omega|(exfalso;omega))|exact(w1.g _).trans (ad rfl)|exact(w1.g _).trans (ac aO)|(simp only[w1.g];(repeat' split)<;>first|rfl|omega|(exfalso;omega))):NJ n b G:=e ▸ h
theorem PY(g:NJ M.n (oB M X) G)(hj:j<M.n)(q:X.S j 0=4):∃p,p<M.n/\G.pr j=some p/\X.S j 1=p+1:=by
 cases e:G.pr j with
 |none=>
  have a:=g.a3 j hj (.inl q) e;have b:=g.h3 j;have c:=g.ha j;have d:=g.w7;have f:=λx=>g.ha x;have h:(oB M X).pc j=4:=q;clear g;grind
 |some p=>exact⟨p,(g.a1 j p hj e).1,rfl,(g.l4 j p hj e q).1⟩
theorem vE(d:NJ M.n (oB M X) G)(hj:j<M.n)(hd:G.hd=some j)(f:G.oc<16)(z:X.A.get M.tail≠(j:Int)+1):∃y,y<M.n/\G.pr y=some j:=by
 have t0:(oB M X).tl≠0:=λe=>by have:=(d.t1 e).1;rw[hd] at this;cases this
 have t:=d.t2 t0;have c:=t.2.2.1;have e:(oB M X).tl=X.A.get M.tail:=rfl;have b:=d.behind hd aO (G.R G.tp) G.tp t.1 (ba _) (by rw[hd] at c;grind) t.2.2.2.2.1;exact b.resolve_left λx=>z (by rw[<-e,t.2.1,x])
theorem GA(b:NJ M.n (oB M X) G)(hj:j<M.n)(hd:G.hd=some j)(q:X.S j 0=13)(z:X.A.get M.tail=(j:Int)+1):∀p,p<M.n->p≠j->X.S p 0≠4/\X.S p 0≠5:=by
 have e:(oB M X).tl=X.A.get M.tail:=rfl;have oc:G.oc=X.S j 0:=(b.h3 j hd).2.2.2.1;have t:=b.t2 aO;have tp:G.tp=j:=by have:=t.2.1;omega
 exact b.empty hd aO (b.k3 aO) (tp ▸ b.t3 aO)
theorem CL(h:jF M X)(hj:j<M.n)(e:an M X j=⟨B,S,X.K⟩)(hs:bG M X j){a:Int}(w1:Wr X.A B a (X.A.get a))(b:∀i,S i 0=X.S i 0)(ho:∀i,i≠j->∀t,S i t=X.S i t)(c:NJ M.n u G)(f:oB M ⟨B,S,X.K⟩=u:=by
 unfold oB;rw[NV.mk.injEq];refine⟨?_,?_,?_,?_,?_,?_,?_,?_,?_,?_⟩<;>first|with_reducible rfl|(funext q;simp[ag,up,CQ,aw];done)|(simp[aw];done)|(funext q;simp only[ag,up];(repeat' split)<;>simp_all)):dB M X j:=by
 have g:∀i,B.get i=X.A.get i:=λi=>by rw[w1.g];split<;>simp[*]
 have sp:∀i,bG M X i->bG M ⟨B,S,X.K⟩ i:=λi hi=>by unfold bG CQ at*;simp only[g,b];exact hi
 have k:∀i,fJ M ⟨B,S,X.K⟩ i=fJ M X i:=λi=>CU (λ_=>rfl) (b i);have l:X.S j 0=5\/X.S j 0=16:=hs.imp BG BG;have r:=Jl (M:=M) (X:=X) (j:=j) aO;unfold dB;rw[e] at r⊢;refine⟨JY h hj w1.tk ho (by show cq (S j 0);rw[b];exact h.RC j hj) h.ps (λi hi d=>h.Sk i hi ((b i).symm.trans d)) (f ▸ c),λ_ _=>.inl hs,λ_=>⟨xm (gE λi _=>k i),λi=>⟨sp i,b i⟩⟩,λi hi=>b i,λ_ _=>?_,λ_=>?_,λ_=>by omega⟩
 ·rw[r];show _<=S j 0/\S j 0<=_/\(S j 0=0\/S j 0=10↔S j 0=10);rw[b];omega
 ·rw[r];show(S j 0=0\/10<S j 0)/\(S j 0=0\/S j 0=10↔S j 0=0);rw[b];omega
theorem PZ(h:jF M X)(hj:j<M.n)(q:X.S j 0=1):dB M X j:=by
 obtain⟨G,b⟩:=h.nj;have t:=fC h hj;have hs:=lM h;have e:an M X j=⟨X.A.store (bT M ((j:Int)+1)) 0,aa X.S j 0 2,X.K⟩:=by unfold an bh bq tf;simp[q]
 rw[t.1] at e;have w1:=Wr.store (v:=0) h.ws (hs.2.2 j hj 2 aO aO);exact da h hj e w1.tk (λi hi t=>by simp[ag,hi]) (sT (b.s1 hj q)) 2 q (by simp[ag]) aO (by unfold cq;omega) (by unfold fJ;simp[ag,q];try omega) (by unfold bG;omega)
theorem P0(h:jF M X)(hj:j<M.n)(q:X.S j 0=2):dB M X j:=by
 obtain⟨G,b⟩:=h.nj;have t:=fC h hj;have hs:=lM h;have e:an M X j=⟨X.A.store (cB M ((j:Int)+1)) 0,aa X.S j 0 3,X.K⟩:=by unfold an bh bq tg;simp[q]
 rw[t.2.1] at e;have w1:=Wr.store (v:=0) h.ws (hs.2.2 j hj 3 aO aO);exact da h hj e w1.tk (λi hi t=>by simp[ag,hi]) (sT (b.s2 hj q)) 3 q (by simp[ag]) aO (by unfold cq;omega) (by unfold fJ;simp[ag,q];try omega) (by unfold bG;omega)
theorem P1(h:jF M X)(hj:j<M.n)(q:X.S j 0=3):dB M X j:=by
 obtain⟨G,b⟩:=h.nj;have t:=fC h hj;have hs:=lM h;by_cases z:X.A.get M.tail=0
 ·have e:an M X j=⟨X.A.swap M.tail ((j:Int)+1),aa (aa X.S j 1 0) j 0 6,X.K⟩:=by unfold an bh bq rc;simp[q,z,mC]
  have w1:=Wr.swap (v:=(j:Int)+1) h.ws hs.1;exact da h hj e w1.tk (λi hi t=>by simp[ag,hi]) (sT (b.VI hj q z)) 6 q (by simp[ag]) aO (by unfold cq;omega) (by unfold fJ;simp[ag,q];try omega) (by unfold bG;omega)
 ·have e:an M X j=⟨X.A.swap M.tail ((j:Int)+1),aa (aa X.S j 1 (X.A.get M.tail)) j 0 4,X.K⟩:=by unfold an bh bq rc;simp[q,z,mC]
  have w1:=Wr.swap (v:=(j:Int)+1) h.ws hs.1;exact da h hj e w1.tk (λi hi t=>by simp[ag,hi]) (sT (b.VJ hj q z)) 4 q (by simp[ag]) aO (by unfold cq;omega) (by unfold fJ;simp[ag,q];try omega) (by unfold bG;omega)
theorem P2(h:jF M X)(hj:j<M.n)(q:X.S j 0=4):dB M X j:=by
 obtain⟨G,b⟩:=h.nj;have t:=fC h hj;have hs:=lM h;obtain⟨p,c,d,f⟩:=PY b hj q;have g:=fC h c;have e:an M X j=⟨X.A.store (bT M (X.S j 1)) ((j:Int)+1),aa X.S j 0 5,X.K⟩:=by unfold an bh bq tj;simp[q]
 rw[show X.S j 1=p+1 from f,g.1] at e;have w1:=Wr.store (v:=(j:Int)+1) h.ws (hs.2.2 p c 2 aO aO);exact da h hj e w1.tk (λi hi t=>by simp[ag,hi]) (sT (b.s4 hj q d)) 5 q (by simp[ag]) aO (by unfold cq;omega) (by unfold fJ;simp[ag,q];try omega) (by unfold bG;omega)
theorem P3(h:jF M X)(hj:j<M.n)(q:X.S j 0=5):dB M X j:=by
 obtain⟨G,c⟩:=h.nj;have t:=fC h hj;have hs:=lM h;by_cases z:X.A.get (cB M ((j:Int)+1))=0
 ·have e:an M X j=⟨X.A.load (cB M ((j:Int)+1)),aa (aa X.S j 1 0) j 0 5,X.K⟩:=by unfold an bh bq rf;simp[q,z,mC]
  exact CL h hj e (.inl ⟨q,by unfold CQ;rw[<-t.2.1];exact z⟩) (Wr.load (a:=0) _) (λi=>by simp only[ag];split<;>simp_all) (λi hi t=>by simp[ag,hi]) (c.VK hj q (by show X.A.get (_+_)=0;rw[<-t.2.1];exact z) 0)
 ·have b:=z;rw[t.2.1] at b;have e:an M X j=⟨X.A.load (cB M ((j:Int)+1)),aa (aa X.S j 1 (X.A.get (cB M ((j:Int)+1)))) j 0 10,X.K⟩:=by unfold an bh bq rf;simp[q,z,mC]
  have w1:=Wr.load (A:=X.A) (a:=0) (cB M ((j:Int)+1));exact da h hj e w1.tk (λi hi t=>by simp[ag,hi]) (cL (c.s5 hj q b (X.A.get (cB M ((j:Int)+1))))) 10 q (by simp[ag]) aO (by unfold cq;omega) (by unfold fJ;simp[ag,q];try omega) (λs=>s.elim (λs=>b s.2) λs=>by have:=s.1;omega)
theorem P4(h:jF M X)(hj:j<M.n)(q:X.S j 0=6):dB M X j:=by
 obtain⟨G,b⟩:=h.nj;have t:=fC h hj;have hs:=lM h;have e:an M X j=⟨X.A.store (cB M ((j:Int)+1)) (-1),aa X.S j 0 10,X.K⟩:=by unfold an bh bq tm;simp[q]
 rw[t.2.1] at e;have w1:=Wr.store (v:= -1) h.ws (hs.2.2 j hj 3 aO aO);exact da h hj e w1.tk (λi hi t=>by simp[ag,hi]) (sT (b.s6 hj q)) 10 q (by simp[ag]) aO (by unfold cq;omega) (by unfold fJ;simp[ag,q];try omega) (by unfold bG;omega)
theorem ed:(∀{M:eh}{X:dq}{j:Nat}(h:jF M X)(hj:j<M.n)(q:X.S j 0=11),dB M X j)/\(∀{M:eh}{X:dq}{j:Nat}(h:jF M X)(hj:j<M.n)(q:X.S j 0=12),dB M X j)/\(∀{M:eh}{X:dq}{j:Nat}(h:jF M X)(hj:j<M.n)(q:X.S j 0=13),dB M X j)/\(∀{M:eh}{X:dq}{j:Nat}(h:jF M X)(hj:j<M.n)(q:X.S j 0=14),dB M X j)/\(∀{M:eh}{X:dq}{j:Nat}(h:jF M X)(hj:j<M.n)(q:X.S j 0=15),dB M X j)/\(∀{M:eh}{X:dq}{j:Nat}(h:jF M X)(hj:j<M.n)(q:X.S j 0=16),dB M X j)/\(∀{M:eh}{X:dq}{j:Nat}(h:jF M X)(hj:j<M.n)(q:X.S j 0=20),dB M X j)/\(∀{M:eh}{X:dq}{j:Nat}(h:jF M X)(hj:j<M.n)(q:X.S j 0=25),dB M X j)/\(∀{M:eh}{X:dq}{j:Nat}(h:jF M X)(hj:j<M.n)(q:X.S j 0=21),dB M X j)/\(∀{M:eh}{X:dq}{j:Nat}(h:jF M X)(hj:j<M.n)(q:X.S j 0=26),dB M X j)/\(∀{M:eh}{X:dq}{j:Nat}(h:jF M X)(hj:j<M.n)(q:X.S j 0=22),dB M X j)/\(∀{M:eh}{X:dq}{j:Nat}(h:jF M X)(hj:j<M.n)(q:X.S j 0=23),dB M X j)/\(∀{M:eh}{X:dq}{j:Nat}(h:jF M X)(hj:j<M.n)(q:X.S j 0=27),dB M X j)/\(∀{M:eh}{X:dq}{j:Nat}(h:jF M X)(hj:j<M.n)(q:X.S j 0=29),dB M X j):=by
 refine⟨?_,?_,?_,?_,?_,?_,?_,?_,?_,?_,?_,?_,?_,?_⟩;all_goals
  intro M X j h hj q
 all_goals
  obtain⟨G,b⟩:=h.nj;have t:=fC h hj;have hs:=lM h;have hd:=b.h1 j hj (.inr (by show 10<=X.S j 0;omega));have p:j<M.n/\G.pr j=none/\G.g j=0/\G.oc=X.S j 0/\_:=b.h3 j hd;have r:G.o1=X.S j 1/\G.o2=X.S j 2/\G.o3=X.S j 3:=b.h5 j hd
 ·have e:an M X j=⟨X.A.load (cB M ((j:Int)+1)),aa (aa X.S j 2 (X.A.get (cB M ((j:Int)+1)))) j 0 12,X.K⟩:=by unfold an bh bq oL;simp[q]
  rw[t.2.1] at e;have w1:=Wr.load (A:=X.A) (a:=0) ((M.tail:Int)+3*j+(3:Nat));exact da h hj e w1.tk (λi hi t=>by simp[ag,hi]) (cL (b.Vu hj q)) 12 q (by simp[ag]) aO (by unfold cq;omega) (by unfold fJ;simp[ag,q];try omega) (by unfold bG;omega)
 ·by_cases z:X.A.get (bT M ((j:Int)+1))=0
  ·by_cases m:0<X.S j 2
   ·have e:an M X j=⟨X.A.load (bT M ((j:Int)+1)),aa (aa X.S j 1 0) j 0 14,X.K⟩:=by unfold an bh bq lL;simp[q,z,m,mC]
    have w1:=Wr.load (A:=X.A) (a:=0) (bT M ((j:Int)+1));exact da h hj e w1.tk (λi hi t=>by simp[ag,hi]) (cL (b.U4 hj q m 0)) 14 q (by simp[ag]) aO (by unfold cq;omega) (by unfold fJ;simp[ag,q];try omega) (by unfold bG;omega)
   ·have e:an M X j=⟨X.A.load (bT M ((j:Int)+1)),aa (aa X.S j 1 0) j 0 13,X.K⟩:=by unfold an bh bq lL;simp[q,z,m,mC]
    have w1:=Wr.load (A:=X.A) (a:=0) (bT M ((j:Int)+1));exact da h hj e w1.tk (λi hi t=>by simp[ag,hi]) (cL (b.U5 hj q m 0)) 13 q (by simp[ag]) aO (by unfold cq;omega) (by unfold fJ;simp[ag,q];try omega) (by unfold bG;omega)
  ·have k:=z;rw[t.1] at k;obtain⟨y,f,g,n,o⟩:=b.nx j hj (.inr (.inr ⟨hd,by omega⟩)) k;have e:an M X j=⟨X.A.load (bT M ((j:Int)+1)),aa (aa X.S j 1 (X.A.get (bT M ((j:Int)+1)))) j 0 17,X.K⟩:=by unfold an bh bq lL;simp[q,z,mC]
   rw[t.1] at e;have w1:=Wr.load (A:=X.A) (a:=0) ((M.tail:Int)+3*j+(2:Nat));exact da h hj e w1.tk (λi hi t=>by simp[ag,hi]) (cL (b.UK hj (.inl q) f g n o)) 17 q (by simp[ag]) aO (by unfold cq;omega) (by unfold fJ;simp[ag,q];try omega) (by unfold bG;omega)
 ·by_cases z:X.A.get M.tail=(j:Int)+1
  ·have ok:X.A.RE M.tail ((j:Int)+1)=true:=by unfold AR.RE;rw[hs.1,z];simp
   have e:an M X j=⟨X.A.Sd M.tail ((j:Int)+1) 0,aa X.S j 0 0,X.K⟩:=by unfold an bh bq m6;simp[q,ok,mC]
   have w1:=Wr.Sd (v:=0) h.ws hs.1 ((j:Int)+1);rw[ad z] at w1;exact da h hj e w1.tk (λi hi t=>by simp[ag,hi]) (sT (b.U6 hj q z (GA b hj hd q z))) 0 q (by simp[ag]) aO (by unfold cq;omega) (by unfold fJ;simp[ag,q];try omega) (by unfold bG;omega)
  ·have ok:X.A.RE M.tail ((j:Int)+1)=false:=by unfold AR.RE;rw[hs.1];simp[z]
   obtain⟨y,f,g⟩:=vE b hj hd aO z;have e:an M X j=⟨X.A.Sd M.tail ((j:Int)+1) 0,aa X.S j 0 16,X.K⟩:=by unfold an bh bq m6;simp[q,ok,mC]
   have w1:=Wr.Sd (v:=0) h.ws hs.1 ((j:Int)+1);rw[ac z] at w1;exact da h hj e w1.tk (λi hi t=>by simp[ag,hi]) (sT (b.UL hj (.inl q) f g z)) 16 q (by simp[ag]) aO (by unfold cq;omega) (by unfold fJ;simp[ag,q];try omega) (by unfold bG;omega)
 ·obtain⟨a,ha⟩:∃a,G.ha=some a:=BI.1 (b.k4 aO);have c:=b.ha a ha;have d:=fC h c.1;have s2:X.S j 2=a+1:=by have:=(b.k2 aO).2.2 a ha;omega
  have e:an M X j=⟨X.A.load (dS M (X.S j 2)),aa (aa X.S j 3 (X.A.get (dS M (X.S j 2)))) j 0 15,X.K⟩:=by unfold an bh bq oM;simp[q]
  rw[s2,d.2.2] at e;have w1:=Wr.load (A:=X.A) (a:=0) ((M.tail:Int)+3*a+(4:Nat));exact da h hj e w1.tk (λi hi t=>by simp[ag,hi]) (cL (b.Vv hj q ha)) 15 q (by simp[ag]) aO (by unfold cq;omega) (by unfold fJ;simp[ag,q];try omega) (by unfold bG;omega)
 ·obtain⟨a,ha⟩:∃a,G.ha=some a:=BI.1 (b.k4 aO);by_cases z:X.A.get M.tail=(j:Int)+1
  ·have ok:X.A.RE M.tail ((j:Int)+1)=true:=by unfold AR.RE;rw[hs.1,z];simp
   have e:an M X j=⟨X.A.Sd M.tail ((j:Int)+1) (X.S j 3),aa X.S j 0 28,X.K⟩:=by unfold an bh bq m7;simp[q,ok,mC]
   have w1:=Wr.Sd (v:=(X.S j 3)) h.ws hs.1 ((j:Int)+1);rw[ad z] at w1;exact da h hj e w1.tk (λi hi t=>by simp[ag,hi]) (sT (b.U7 hj q z ha)) 28 q (by simp[ag]) aO (by unfold cq;omega) (by unfold fJ;simp[ag,q];try omega) (by unfold bG;omega)
  ·have ok:X.A.RE M.tail ((j:Int)+1)=false:=by unfold AR.RE;rw[hs.1];simp[z]
   obtain⟨y,f,g⟩:=vE b hj hd aO z;have e:an M X j=⟨X.A.Sd M.tail ((j:Int)+1) (X.S j 3),aa X.S j 0 16,X.K⟩:=by unfold an bh bq m7;simp[q,ok,mC]
   have w1:=Wr.Sd (v:=(X.S j 3)) h.ws hs.1 ((j:Int)+1);rw[ac z] at w1;exact da h hj e w1.tk (λi hi t=>by simp[ag,hi]) (sT (b.UL hj (.inr q) f g z)) 16 q (by simp[ag]) aO (by unfold cq;omega) (by unfold fJ;simp[ag,q];try omega) (by unfold bG;omega)
 ·by_cases z:X.A.get (bT M ((j:Int)+1))=0
  ·have e:an M X j=⟨X.A.load (bT M ((j:Int)+1)),aa (aa X.S j 1 0) j 0 16,X.K⟩:=by unfold an bh bq m8;simp[q,z,mC]
   exact CL h hj e (.inr ⟨q,by unfold CQ;rw[<-t.1];exact z⟩) (Wr.load (a:=0) _) (λi=>by simp only[ag];split<;>simp_all) (λi hi t=>by simp[ag,hi]) (b.Vw hj q 0)
  ·have k:=z;rw[t.1] at k;obtain⟨y,f,g,n,o⟩:=b.nx j hj (.inr (.inr ⟨hd,by omega⟩)) k;have e:an M X j=⟨X.A.load (bT M ((j:Int)+1)),aa (aa X.S j 1 (X.A.get (bT M ((j:Int)+1)))) j 0 17,X.K⟩:=by unfold an bh bq m8;simp[q,z,mC]
   rw[t.1] at e;have w1:=Wr.load (A:=X.A) (a:=0) ((M.tail:Int)+3*j+(2:Nat));exact da h hj e w1.tk (λi hi t=>by simp[ag,hi]) (cL (b.UK hj (.inr q) f g n o)) 17 q (by simp[ag]) aO (by unfold cq;omega) (by unfold fJ;simp[ag,q];try omega) (λs=>s.elim (λs=>by have:=s.1;omega) λs=>k s.2)
 ·obtain⟨a,ha⟩:∃a,G.ha=some a:=BI.1 (b.k4 aO);have c:=b.ha a ha;have d:=fC h c.1;have s2:X.S j 2=a+1:=by have:=(b.k2 aO).2.2 a ha;omega
  have e:an M X j=⟨X.A.load (dS M (X.S j 2)),aa (aa X.S j 3 (X.A.get (dS M (X.S j 2)))) j 0 21,X.K⟩:=by unfold an bh bq oN;simp[q]
  rw[s2,d.2.2] at e;have w1:=Wr.load (A:=X.A) (a:=0) ((M.tail:Int)+3*a+(4:Nat));exact da h hj e w1.tk (λi hi t=>by simp[ag,hi]) (cL (b.Vx hj q ha)) 21 q (by simp[ag]) aO (by unfold cq;omega) (by unfold fJ;simp[ag,q];try omega) (by unfold bG;omega)
 ·obtain⟨a,ha⟩:∃a,G.ha=some a:=BI.1 (b.k4 aO);have c:=b.ha a ha;have d:=fC h c.1;have s2:X.S j 2=a+1:=by have:=(b.k2 aO).2.2 a ha;omega
  have e:an M X j=⟨X.A.load (dS M (X.S j 2)),aa (aa X.S j 3 (X.A.get (dS M (X.S j 2)))) j 0 26,X.K⟩:=by unfold an bh bq oS;simp[q]
  rw[s2,d.2.2] at e;have w1:=Wr.load (A:=X.A) (a:=0) ((M.tail:Int)+3*a+(4:Nat));exact da h hj e w1.tk (λi hi t=>by simp[ag,hi]) (cL (b.VC hj q ha)) 26 q (by simp[ag]) aO (by unfold cq;omega) (by unfold fJ;simp[ag,q];try omega) (by unfold bG;omega)
 ·have w3:=b.w3 aO;have fp:=(b.a1 G.f G.fp w3.1 w3.2.2.1).1;have tp:=fC h fp;have s3:X.S j 3=G.fp+1:=by have:=w3.2.2.2.2.2.2 aO;omega
  have e:an M X j=⟨X.A.store (bT M (X.S j 3)) (X.S j 1),aa X.S j 0 22,X.K⟩:=by unfold an bh bq oO;simp[q]
  rw[s3,tp.1] at e;have w1:=Wr.store (v:=X.S j 1) h.ws (hs.2.2 G.fp fp 2 aO aO);exact da h hj e w1.tk (λi hi t=>by simp[ag,hi]) (sT (b.Vy hj q)) 22 q (by simp[ag]) aO (by unfold cq;omega) (by unfold fJ;simp[ag,q];try omega) (by unfold bG;omega)
 ·obtain⟨a,ha⟩:∃a,G.ha=some a:=BI.1 (b.k4 aO);have c:=b.ha a ha;have d:=fC h c.1;have s2:X.S j 2=a+1:=by have:=(b.k2 aO).2.2 a ha;omega
  have l:=b.ls (by rw[ha];exact nofun);have tl:=fC h l.1;have s3:X.S j 3=G.ls+1:=by have:=b.w4 aO;omega
  have e:an M X j=⟨X.A.store (bT M (X.S j 3)) (X.S j 1),aa X.S j 0 27,X.K⟩:=by unfold an bh bq oT;simp[q]
  rw[s3,tl.1] at e;have w1:=Wr.store (v:=X.S j 1) h.ws (hs.2.2 G.ls l.1 2 aO aO);exact da h hj e w1.tk (λi hi t=>by simp[ag,hi]) (sT (b.VD hj q ha)) 27 q (by simp[ag]) aO (by unfold cq;omega) (by unfold fJ;simp[ag,q];try omega) (by unfold bG;omega)
 ·obtain⟨a,ha⟩:∃a,G.ha=some a:=BI.1 (b.k4 aO);have c:=b.ha a ha;have d:=fC h c.1;have s2:X.S j 2=a+1:=by have:=(b.k2 aO).2.2 a ha;omega
  have e:an M X j=⟨X.A.store (dS M (X.S j 2)) X.K.last,aa (aa X.S j 1 X.K.fo) j 0 23,X.K⟩:=by unfold an bh bq oP;simp[q]
  rw[s2,d.2.2] at e;have w1:=Wr.store (v:=X.K.last) h.ws (hs.2.2 a c.1 4 aO aO);exact da h hj e w1.tk (λi hi t=>by simp[ag,hi]) (sT (b.Vz hj q ha)) 23 q (by simp[ag]) aO (by unfold cq;omega) (by unfold fJ;simp[ag,q];try omega) (by unfold bG;omega)
 ·have ct:ao M=(M.tail:Int)+1:=by have:=h.lay;unfold ao wrap64;omega
  have h1:=hs.2.1;rw[ct] at h1;have e:an M X j=⟨X.A.add (ao M) 1,aa X.S j 0 24,X.K⟩:=by unfold an bh bq oQ;simp[q]
  rw[ct] at e;have w1:=Wr.add h.ws h1 1;exact da h hj e w1.tk (λi hi t=>by simp[ag,hi]) (sT (b.VA hj q)) 24 q (by simp[ag]) aO (by unfold cq;omega) (by unfold fJ;simp[ag,q];try omega) (by unfold bG;omega)
 ·have ct:ao M=(M.tail:Int)+1:=by have:=h.lay;unfold ao wrap64;omega
  have h1:=hs.2.1;rw[ct] at h1;have e:an M X j=⟨X.A.store (ao M) 0,aa X.S j 0 28,X.K⟩:=by unfold an bh bq oU;simp[q]
  rw[ct] at e;have w1:=Wr.store (v:=0) h.ws h1;exact da h hj e w1.tk (λi hi t=>by simp[ag,hi]) (sT (b.VE hj q)) 28 q (by simp[ag]) aO (by unfold cq;omega) (by unfold fJ;simp[ag,q];try omega) (by unfold bG;omega)
 ·have ct:ao M=(M.tail:Int)+1:=by have:=h.lay;unfold ao wrap64;omega
  have h1:=hs.2.1;rw[ct] at h1;have e:an M X j=⟨X.A.store (ao M) 0,aa X.S j 0 30,X.K⟩:=by unfold an bh bq oW;simp[q]
  rw[ct] at e;have w1:=Wr.store (v:=0) h.ws h1;exact da h hj e w1.tk (λi hi t=>by simp[ag,hi]) (sT (b.VG hj q)) 30 q (by simp[ag]) aO (by unfold cq;omega) (by unfold fJ;simp[ag,q];try omega) (by unfold bG;omega)
def MV:= @ed.1
def MW:= @ed.2.1
def MX:= @ed.2.2.1
def MY:= @ed.2.2.2.1
def MZ:= @ed.2.2.2.2.1
def M0:= @ed.2.2.2.2.2.1
def M4:= @ed.2.2.2.2.2.2.1
def M9:= @ed.2.2.2.2.2.2.2.1
def M5:= @ed.2.2.2.2.2.2.2.2.1
def Na:= @ed.2.2.2.2.2.2.2.2.2.1
def M6:= @ed.2.2.2.2.2.2.2.2.2.2.1
def M7:= @ed.2.2.2.2.2.2.2.2.2.2.2.1
def Nb:= @ed.2.2.2.2.2.2.2.2.2.2.2.2.1
def Nd:= @ed.2.2.2.2.2.2.2.2.2.2.2.2.2
theorem jU:(∀{M:eh}{X:dq}{j:Nat}(h:jF M X)(hj:j<M.n)(q:X.S j 0=24),dB M X j)/\(∀{M:eh}{X:dq}{j:Nat}(h:jF M X)(hj:j<M.n)(q:X.S j 0=30),dB M X j)/\(∀{M:eh}{X:dq}{j:Nat}(h:jF M X)(hj:j<M.n)(q:X.S j 0=28),dB M X j)/\(∀{M:eh}{X:dq}{j:Nat}(h:jF M X)(hj:j<M.n)(q:X.S j 0=19),dB M X j)/\(∀{M:eh}{X:dq}{j:Nat}(h:jF M X)(hj:j<M.n)(q:X.S j 0=17),dB M X j)/\(∀{M:eh}{X:dq}{j:Nat}(h:jF M X)(hj:j<M.n)(q:X.S j 0=18),dB M X j):=by
 refine⟨?_,?_,?_,?_,?_,?_⟩;all_goals
  intro M X j h hj q
 all_goals
  obtain⟨G,d⟩:=h.nj;have t:=fC h hj;have hs:=lM h;have hd:=d.h1 j hj (.inr (by show 10<=X.S j 0;omega));have E:j<M.n/\G.pr j=none/\G.g j=0/\G.oc=X.S j 0/\_:=d.h3 j hd;have F:G.o1=X.S j 1/\G.o2=X.S j 2/\G.o3=X.S j 3:=d.h5 j hd
 ·have f:=d.w1 aO;have m:=fC h f.1;have s1:X.S j 1=G.su+1:=by have:=f.2.2.2;rw[ac aO] at this;omega
  have e:an M X j=⟨X.A.store (cB M (X.S j 1)) (X.S j 2),aa X.S j 0 0,X.K⟩:=by unfold an bh bq oR;simp[q]
  rw[s1,m.2.1] at e;have w1:=Wr.store (v:=X.S j 2) h.ws (hs.2.2 G.su f.1 3 aO aO);exact da h hj e w1.tk (λi hi t=>by simp[ag,hi]) (sT (d.VB hj q)) 0 q (by simp[ag]) aO (by unfold cq;omega) (by unfold fJ;simp[ag,q];try omega) (by unfold bG;omega)
 ·have f:=d.w1 aO;have m:=fC h f.1;have s1:X.S j 1=G.su+1:=by have:=f.2.2.2;rw[ac aO] at this;omega
  have e:an M X j=⟨X.A.store (cB M (X.S j 1)) (-1),aa X.S j 0 0,X.K⟩:=by unfold an bh bq oX;simp[q]
  rw[s1,m.2.1] at e;have w1:=Wr.store (v:= -1) h.ws (hs.2.2 G.su f.1 3 aO aO);exact da h hj e w1.tk (λi hi t=>by simp[ag,hi]) (sT (d.VH hj q)) 0 q (by simp[ag]) aO (by unfold cq;omega) (by unfold fJ;simp[ag,q];try omega) (by unfold bG;omega)
 ·have w7:=d.w7 aO;have D:=fC h w7.1;have s2:X.S j 2=G.f+1:=by have:=w7.2.1;omega
  have e:an M X j=⟨X.A.store (cB M (X.S j 2)) (-1),aa X.S j 0 0,X.K⟩:=by unfold an bh bq oV;simp[q]
  rw[s2,D.2.1] at e;have w1:=Wr.store (v:= -1) h.ws (hs.2.2 G.f w7.1 3 aO aO);exact da h hj e w1.tk (λi hi t=>by simp[ag,hi]) (sT (d.VF hj q)) 0 q (by simp[ag]) aO (by unfold cq;omega) (by unfold fJ;simp[ag,q];try omega) (by unfold bG;omega)
 ·have k5:=d.w5 aO;have tk:=fC h k5.1;have kl:X.K.last=G.k+1:=k5.2.1;by_cases z:0<X.S j 2
  ·have e:an M X j=⟨X.A.store (bT M X.K.last) 0,aa X.S j 0 20,X.K⟩:=by unfold an bh bq na;simp[q,z]
   rw[kl,tk.1] at e;have w1:=Wr.store (v:=0) h.ws (hs.2.2 G.k k5.1 2 aO aO);exact da h hj e w1.tk (λi hi t=>by simp[ag,hi]) (sT (d.Vh hj q z)) 20 q (by simp[ag]) aO (by unfold cq;omega) (by unfold fJ;simp[ag,q];try omega) (by unfold bG;omega)
  ·have e:an M X j=⟨X.A.store (bT M X.K.last) 0,aa (aa X.S j 2 (X.S j 1)) j 0 22,X.K⟩:=by unfold an bh bq na;simp[q,z]
   rw[kl,tk.1] at e;have w1:=Wr.store (v:=0) h.ws (hs.2.2 G.k k5.1 2 aO aO);exact da h hj e w1.tk (λi hi t=>by simp[ag,hi]) (sT (d.Vi hj q z)) 22 q (by simp[ag]) aO (by unfold cq;omega) (by unfold fJ;simp[ag,q];try omega) (by unfold bG;omega)
 ·have uq:∀i,i<M.n->i≠j->X.S i 0≠18:=λi hi ne e=>by have a:=d.h1 i hi (.inr (by show 10<=X.S i 0;omega));rw[hd] at a;cases a;exact ne rfl
  have f:=d.w1 aO;have m:=fC h f.1;have s1:X.S j 1=G.su+1:=by have:=f.2.2.2;rw[ac aO] at this;omega
  have l0:¬(0:Int)=M.n:=by omega
  have p:pA M.sc (X.S j 1)=true:=by unfold pA xB.n eh.sc;have:(M.N.length:Int)=M.n:=rfl;simp;omega
  by_cases b:M.bud<=X.A.get (ao M)
  ·by_cases z:0<X.S j 2
   ·have e:an M X j=⟨X.A.load (ao M),aa (aa X.S j 3 (X.A.get (ao M))) j 0 25,X.K⟩:=by unfold an bh bq kD;simp[q,b,z,mC]
    exact kF h hj e (Wr.load (A:=X.A) (a:=0) _).tk (λi hi t=>by simp[ag,hi]) h.ps (λi hi hs=>(xv (i=j)).elim (λc=>by subst c;exact am hs (by simp[ag])) λc=>am (by simpa[ag,c] using hs) (uq i hi c)) (cL (d.U9 hj q z (X.A.get (ao M)))) q (c':=25) (by simp[ag]) aO (by unfold cq;omega) (by unfold fJ;simp[ag,q];try omega) (λi hi c e=>am e (uq i hi c)) (by unfold bG;omega)
   ·have e:an M X j=⟨X.A.load (ao M),aa (aa X.S j 3 (X.A.get (ao M))) j 0 29,X.K⟩:=by unfold an bh bq kD;simp[q,b,z,mC]
    exact kF h hj e (Wr.load (A:=X.A) (a:=0) _).tk (λi hi t=>by simp[ag,hi]) h.ps (λi hi hs=>(xv (i=j)).elim (λc=>by subst c;exact am hs (by simp[ag])) λc=>am (by simpa[ag,c] using hs) (uq i hi c)) (cL (d.Va hj q z (X.A.get (ao M)))) q (c':=29) (by simp[ag]) aO (by unfold cq;omega) (by unfold fJ;simp[ag,q];try omega) (λi hi c e=>am e (uq i hi c)) (by unfold bG;omega)
  ·by_cases z:M.N[(X.S j 1).toNat - 1]?.getD 0=M.N[j]?.getD 0
   ·have kb:h7 M.sc X.K (X.S j 1) (M.N[j]?.getD 0)=⟨M.N[j]?.getD 0,false,0,0,X.S j 1⟩:=by unfold h7 dI;rw[p];have:(M.sc.n:Int)=M.n:=rfl;have k:M.sc.N[(X.S j 1).toNat - 1]?.getD 0=M.N[j]?.getD 0:=z;simp[k,this,l0]
    have e:an M X j=⟨X.A.load (ao M),aa (aa X.S j 3 (X.A.get (ao M))) j 0 23,⟨M.N[j]?.getD 0,false,0,0,X.S j 1⟩⟩:=by unfold an bh bq kD;simp[q,b,kb]
    exact kF h hj e (Wr.load (A:=X.A) (a:=0) _).tk (λi hi t=>by simp[ag,hi]) ⟨by show(0:Int)<=0;omega,by show(0:Int)<=_;omega⟩ (λi hi hs=>(xv (i=j)).elim (λc=>by subst c;exact am hs (by simp[ag])) λc=>am (by simpa[ag,c] using hs) (uq i hi c)) (cL (d.Vb hj q (X.A.get (ao M)) 0 (X.S j 1))) q (c':=23) (by simp[ag]) aO (by unfold cq;omega) (by unfold fJ;simp[ag,q];try omega) (λi hi c e=>am e (uq i hi c)) (by unfold bG;omega)
   ·have kb:h7 M.sc X.K (X.S j 1) (M.N[j]?.getD 0)=⟨M.N[j]?.getD 0,true,1,X.S j 1,0⟩:=by unfold h7 dI;rw[p];have:(M.sc.n:Int)=M.n:=rfl;have k:¬M.sc.N[(X.S j 1).toNat - 1]?.getD 0=M.N[j]?.getD 0:=z;simp[k,this,l0,wrap64]
    have e:an M X j=⟨X.A.load (ao M),aa (aa X.S j 3 (X.A.get (ao M))) j 0 18,⟨M.N[j]?.getD 0,true,1,X.S j 1,0⟩⟩:=by unfold an bh bq kD;simp[q,b,kb]
    exact kF h hj e (Wr.load (A:=X.A) (a:=0) _).tk (λi hi t=>by simp[ag,hi]) ⟨by show(0:Int)<=1;omega,by show(1:Int)<=_;omega⟩ (λi hi hs=>(xv (i=j)).elim (λc=>by subst c;exact⟨rfl,rfl⟩) λc=>am (by simpa[ag,c] using hs) (uq i hi c)) (cL (d.Vc hj q (X.A.get (ao M)) 0)) q (c':=18) (by simp[ag]) aO (by unfold cq;omega) (by unfold fJ;simp[ag,q];try omega) (λi hi c e=>am e (uq i hi c)) (by unfold bG;omega)
 ·have uq:∀i,i<M.n->i≠j->X.S i 0≠18:=λi hi ne e=>by have a:=d.h1 i hi (.inr (by show 10<=X.S i 0;omega));rw[hd] at a;cases a;exact ne rfl
  have k5:=d.w5 aO;have tk:=fC h k5.1;have kl:X.K.last=G.k+1:=k5.2.1;have n:=h.Sk j hj q;have ps:=h.ps;have x:ny M.sc X.K.last=(M.tail:Int)+3*G.k+(2:Nat):=by rw[kl];exact OL h k5.1
  have B:X.A.get ((M.tail:Int)+3*G.k+(2:Nat))=(oB M X).nx G.k:=rfl;have g:an M X j={A:=X.A.load ((M.tail:Int)+3*G.k+(2:Nat)),K:=dI M.sc X.K ((oB M X).nx G.k),S:=aa X.S j 0 (if(dI M.sc X.K ((oB M X).nx G.k)).Sk=true then 18 else if(dI M.sc X.K ((oB M X).nx G.k)).fo=0 then mC (decide (0<X.S j 2)) 25 29 else 19)}:=by
   unfold an bh bq m9 j9 gD mb;rw[n.1,x,B];cases(dI M.sc X.K ((oB M X).nx G.k)).Sk<;>simp[q]
  by_cases l:pA M.sc ((oB M X).nx G.k)=true/\¬X.K.ps=M.n
  ·have C:(oB M X).nx G.k≠0:=λe=>by have:=l.1;rw[e] at this;simp[pA] at this
   obtain⟨y,r,s,u,w⟩:=d.nx G.k k5.1 (.inr (.inl (d.g2 G.k k5.1 k5.2.2.1).1)) C;by_cases z:M.N[y]?.getD 0=X.K.node
   ·have kb:dI M.sc X.K ((oB M X).nx G.k)=⟨X.K.node,false,X.K.ps,X.K.last,y+1⟩:=by unfold dI;rw[l.1,s];have:(M.sc.n:Int)=M.n:=rfl;have k:M.sc.N[y]?.getD 0=X.K.node:=z;have o:((y:Int)+1).toNat - 1=y:=aO;simp[this,l.2,o,k]
    rw[kb] at g;have e:an M X j=⟨X.A.load ((M.tail:Int)+3*G.k+(2:Nat)),aa X.S j 0 19,⟨X.K.node,false,X.K.ps,X.K.last,y+1⟩⟩:=by rw[g];simp[show¬(y:Int)+1=0 from aO]
    exact kF h hj e (Wr.load (A:=X.A) (a:=0) _).tk (λi hi t=>by simp[ag,hi]) h.ps (λi hi hs=>(xv (i=j)).elim (λc=>by subst c;exact am hs (by simp[ag])) λc=>am (by simpa[ag,c] using hs) (uq i hi c)) (cL (d.Ve hj q r u w)) q (c':=19) (by simp[ag]) aO (by unfold cq;omega) (by unfold fJ;simp[ag,q];try omega) (λi hi c e=>am e (uq i hi c)) (by unfold bG;omega)
   ·have kb:dI M.sc X.K ((oB M X).nx G.k)=⟨X.K.node,true,X.K.ps+1,y+1,X.K.fo⟩:=by unfold dI;rw[l.1,s];have:(M.sc.n:Int)=M.n:=rfl;have k:¬M.sc.N[y]?.getD 0=X.K.node:=z;have o:((y:Int)+1).toNat - 1=y:=aO;simp[this,l.2,o,k];have:=h.lay;unfold wrap64;omega
    rw[kb] at g;have e:an M X j=⟨X.A.load ((M.tail:Int)+3*G.k+(2:Nat)),aa X.S j 0 18,⟨X.K.node,true,X.K.ps+1,y+1,X.K.fo⟩⟩:=by rw[g];simp
    exact kF h hj e (Wr.load (A:=X.A) (a:=0) _).tk (λi hi t=>by simp[ag,hi]) ⟨by show 0<=X.K.ps+1;omega,by show X.K.ps+1<=_;omega⟩ (λi hi hs=>(xv (i=j)).elim (λc=>by subst c;exact⟨rfl,n.2⟩) λc=>am (by simpa[ag,c] using hs) (uq i hi c)) (cL (d.Vd hj q r u w X.K.fo)) q (c':=18) (by simp[ag]) aO (by unfold cq;omega) (by unfold fJ;simp[ag,q];omega) (λi hi c e=>am e (uq i hi c)) (by unfold bG;omega)
  ·have kb:dI M.sc X.K ((oB M X).nx G.k)={X.K with Sk:=false}:=by unfold dI;have:(M.sc.n:Int)=M.n:=rfl;rw[ad];(rw[this]);by_cases o1:pA M.sc ((oB M X).nx G.k)=true<;>by_cases o2:X.K.ps=M.n<;>simp_all
   rw[kb] at g;by_cases z:0<X.S j 2
   ·have e:an M X j=⟨X.A.load ((M.tail:Int)+3*G.k+(2:Nat)),aa X.S j 0 25,{X.K with Sk:=false}⟩:=by rw[g];simp[n.2,mC,z]
    exact kF h hj e (Wr.load (A:=X.A) (a:=0) _).tk (λi hi t=>by simp[ag,hi]) h.ps (λi hi hs=>(xv (i=j)).elim (λc=>by subst c;exact am hs (by simp[ag])) λc=>am (by simpa[ag,c] using hs) (uq i hi c)) (cL (d.Vf hj q z X.K.last X.K.fo)) q (c':=25) (by simp[ag]) aO (by unfold cq;omega) (by unfold fJ;simp[ag,q];try omega) (λi hi c e=>am e (uq i hi c)) (by unfold bG;omega)
   ·have e:an M X j=⟨X.A.load ((M.tail:Int)+3*G.k+(2:Nat)),aa X.S j 0 29,{X.K with Sk:=false}⟩:=by rw[g];simp[n.2,mC,z]
    exact kF h hj e (Wr.load (A:=X.A) (a:=0) _).tk (λi hi t=>by simp[ag,hi]) h.ps (λi hi hs=>(xv (i=j)).elim (λc=>by subst c;exact am hs (by simp[ag])) λc=>am (by simpa[ag,c] using hs) (uq i hi c)) (cL (d.Vg hj q z X.K.last X.K.fo)) q (c':=29) (by simp[ag]) aO (by unfold cq;omega) (by unfold fJ;simp[ag,q];try omega) (λi hi c e=>am e (uq i hi c)) (by unfold bG;omega)
def M8:= @jU.1
def Nf:= @jU.2.1
def Nc:= @jU.2.2.1
def M3:= @jU.2.2.2.1
def M1:= @jU.2.2.2.2.1
def M2:= @jU.2.2.2.2.2
theorem jF.step(h:jF M X)(hj:j<M.n):dB M X j:=by
 have idle:bh X j=false->dB M X j:=λe=>by
  have a:an M X j=X:=by unfold an;rw[e];rfl
  have b:js M X j=false:=by unfold js;rw[e];rfl
  have c:X.S j 0=0\/X.S j 0=10:=by unfold bh at e;simp at e;omega
  unfold dB;rw[a,b];exact⟨h,λx y=>by omega,λs=>by have:=s.imp BG BG;omega,λ_ _=>rfl,λ_ _=>by omega,λ_=>by omega,λ_=>⟨rfl,rfl⟩⟩
 have pc:=h.RC j hj;by_cases f:X.S j 0=0
 ·exact idle (by unfold bh;simp[f])
 by_cases d:X.S j 0=10
 ·exact idle (by unfold bh;simp[d])
 unfold cq at pc;have:X.S j 0=1\/X.S j 0=2\/X.S j 0=3\/X.S j 0=4\/X.S j 0=5\/X.S j 0=6\/X.S j 0=11\/X.S j 0=12\/X.S j 0=13\/X.S j 0=14\/X.S j 0=15\/X.S j 0=16\/X.S j 0=17\/X.S j 0=18\/X.S j 0=19\/X.S j 0=20\/X.S j 0=21\/X.S j 0=22\/X.S j 0=23\/X.S j 0=24\/X.S j 0=25\/X.S j 0=26\/X.S j 0=27\/X.S j 0=28\/X.S j 0=29\/X.S j 0=30:=by omega
 rcases this with q|q|q|q|q|q|q|q|q|q|q|q|q|q|q|q|q|q|q|q|q|q|q|q|q|q
 ·exact PZ h hj q
 ·exact P0 h hj q
 ·exact P1 h hj q
 ·exact P2 h hj q
 ·exact P3 h hj q
 ·exact P4 h hj q
 ·exact MV h hj q
 ·exact MW h hj q
 ·exact MX h hj q
 ·exact MY h hj q
 ·exact MZ h hj q
 ·exact M0 h hj q
 ·exact M1 h hj q
 ·exact M2 h hj q
 ·exact M3 h hj q
 ·exact M4 h hj q
 ·exact M5 h hj q
 ·exact M6 h hj q
 ·exact M7 h hj q
 ·exact M8 h hj q
 ·exact M9 h hj q
 ·exact Na h hj q
 ·exact Nb h hj q
 ·exact Nc h hj q
 ·exact Nd h hj q
 ·exact Nf h hj q
variable{b:Int}
theorem jF.hand(h:jF M X)(hj:j<M.n){a:Int}(d:X.S j 0=a)(k:a=0/\b=1\/a=10/\b=11):jF M {X with S:=bo M.n X.S (j:Int) a b}:=by
 rw[dQ hj d];obtain⟨G,f⟩:=h.nj;obtain⟨c,g⟩:∃c,NJ M.n {oB M X with pc:=up (oB M X).pc j b} c:=by
  rcases k with⟨e,rfl⟩|⟨e,rfl⟩
  ·exact⟨_,f.ask hj (d.trans e)⟩
  ·exact⟨_,f.leave hj (d.trans e)⟩
 refine JY (j:=j) h hj ⟨rfl,rfl⟩ (λi hi t=>by simp[ag,hi]) (by simp[ag];unfold cq;omega) h.ps (λi hi hs=>h.Sk i hi ?_) (G:=c) (cL g);by_cases e:i=j
 ·subst e;have:b=18:=by simpa[ag] using hs
  omega
 ·simpa[ag,e] using hs
theorem CT(h:jF M X):fJ M X j<=M.n+19:=by
 unfold fJ;dsimp only;(repeat' split)<;>omega
theorem MT{a:Int}(h:X.S j 0≠a):({X with S:=bo M.n X.S (j:Int) a b}:dq)=X:=by rw[i3 h]
theorem MU(M:eh):(xO M).Row (λ_=>jF M) (λX=>sm (fJ M X) M.n) (bG M) where
 I:=λk s m h=>h
 V:=λk s h=>h.RC
 aR:=λs j _ hj l=>dc hj l
 aN:=λs j r l=>MT l
 aS:=λk s j r m h hj l=>⟨h.hand hj l (.inl ⟨rfl,rfl⟩),⟨1,by omega,j5 hj l⟩,nofun⟩
 lR:=λs j hj l=>dc hj l
 lN:=λs j l=>MT l
 lS:=λk s j m h hj l=>⟨h.hand hj l (.inr ⟨rfl,rfl⟩),11,by omega,j5 hj l⟩
 lW:=λk s j h hj l=>by
  have hj:j<M.n:=hj;have l:s.S j 0=10:=l;have e:fJ M {s with S:=bo M.n s.S (j:Int) 10 11} j<fJ M s j:=by rw[dQ hj l];unfold fJ;simp[ag,l]
  have:=cd (f:=fJ M s) (g:=fJ M {s with S:=bo M.n s.S (j:Int) 10 11}) hj λi hi ne=>CU (λ_=>rfl) (by rw[dQ hj l];simp[ag,ne]);show sm (fJ M {s with S:=bo M.n s.S (j:Int) 10 11}) M.n<_;omega
 st:=λk s j m h hj=>by
  obtain⟨a,b,c,d⟩:=h.step hj;exact⟨a,⟨b,λhs=>⟨(c hs).1,λi hi=>⟨((c hs).2 i).1,by show(an M s j).S i 0=0↔s.S i 0=0;rw[((c hs).2 i).2],by show(an M s j).S i 0=10↔s.S i 0=10;rw[((c hs).2 i).2]⟩⟩⟩,d,nofun⟩
 pc:=λk s j h hj=>by have:=h.RC j hj;unfold cq at this;show 0<=s.S j 0;omega
 sp:=λs j h=>by have:=h.imp BG BG;show s.S j 0≠0/\s.S j 0≠10;omega
 stuck:=λk s h hs=>by
  by_cases c:∃j,j<M.n/\s.S j 0=10
  ·exact .inl c
  ·obtain⟨G,n⟩:=h.nj;refine .inr (n.stuck λj hj=>?_);rcases hs j hj with a|a|a
   ·exact .inl a
   ·exact am ⟨j,hj,a⟩ c
   ·exact .inr a
 top:=λk s h hn=>by
  have a:sm (fJ M s) M.n<=M.n*(M.n+19):=lj λj hj=>CT h;have c:M.n<=6:=hn;have:M.n*(M.n+19)<=6*25:=vf c aO;omega
 S2:=nofun
 out:=nofun
 lone:=λ_ k s u hn h o ho=>by
  have a:=CT (j:=u) h;have b:sm (fJ M s) M.n=fJ M s u:=i8 o λi hi hne=>by have:s.S i 0=0:=ho i hi hne;unfold fJ;simp[this]
  have c:M.n<=6:=hn;omega
theorem NJ.zero{v:NV}(b:∀p,v.pc p=0)(ht:v.tl=0):NJ n v ⟨λ_=>none,λ_=>0,λ_=>0,none,none,0,0,0,0,0,0,0,0,0,0⟩:=by
 constructor<;>simp[b,ht]
end
end Go.Proofs.YteijjhahgabalaaGreat
