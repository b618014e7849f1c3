/- The contracts of package drain. (Printed by gen_drain_e.py.) -/
import Derived.Deep.RegionWith
import Derived.Deep.DeepCutAuto
import Derived.Deep.CutBlock
import Derived.Test.YteijjhahgabalaaGreatWF06
set_option maxRecDepth 100000
set_option maxHeartbeats 8000000
set_option linter.all false
namespace Go.Proofs.YteijjhahgabalaaGreat
open Go.RowKit
open Tryz
structure DR where
 at_:Int
 Tj:Int
 once:Bool
 busy:Bool
 second:Bool
 out:Int
 clear:Bool
def gj(w:World)(db:Nat)(gp:Option Addr)(D:DR):Prop:=
 aq w db [.pointer gp,D.at_,D.Tj,D.once,D.busy,D.second,D.out,D.clear] 270
theorem gj.Rr{w w':World}{db:Nat}{gp:Option Addr}{D:DR}(h:gj w db gp D){S:List Nat}(a:af S w w')(h1:db∉S):gj w' db gp D:=aq.Rr h a h1
def DR.zero:DR:=⟨0,0,false,false,false,0,false⟩
def DR.over(D:DR)(c:Bool):DR:={D with busy:=false,clear:=c}
def DR.Rw(D:DR)(a b:Int)(once:Bool):DR:=if b<=a then DR.over {D with at_:=a,Tj:=b,once:=once,second:=false} true else{D with at_:=a,Tj:=b,once:=once,second:=false,busy:=true,clear:=false}
def DR.first(D:DR)(v:Int):DR:={D with out:=v,second:=true}
def DR.last(D:DR)(v:Int):DR:=
 if v=D.out then(if wrap64 (D.at_+1)=D.Tj then DR.over {D with second:=false,at_:=wrap64 (D.at_+1)} true else{D with second:=false,at_:=wrap64 (D.at_+1)})
 else if D.once then DR.over {D with second:=false} false else{D with second:=false}
def DR.Sv(D:DR)(v:Int):Bool:=if v=D.out then decide (wrap64 (D.at_+1)=D.Tj) else D.once
section
variable{w:World}{db:Nat}{gp:Option Addr}{D:DR}
theorem C7(gp:Option Addr)(w:World):Calls prog 108 #[.pointer gp] w λe w'=>e= .returned (some w.heap.size)/\gj w' w.heap.size gp DR.zero/\af [] w w':=by
 go_enter func108,ntmps108;go_wp2;go_ret;exact⟨rfl,aq.new w _ _,aF.alloc _⟩
theorem oZ(h:gj w db gp D)(c:Bool):Calls prog 349 #[some db,c] w λe w'=>e= .returned true/\gj w' db gp (D.over c)/\af [db] w w':=by
 have b:=aq.frozen h;have d:=aq.cell h (i:=4) rfl;have f:=aq.cell h (i:=7) rfl;have hs:=(aq.set h 4 (.bool false)).set 7 (.bool c);have a:=aH hs;clear h hs;go_enter func349,ntmps349;go_wp2;go_ret;exact⟨rfl,a.o,(aF.set ⟨db,4,none⟩ _ (.inl aS)).set ⟨db,7,none⟩ _ (.inl aS)⟩
theorem oY(h:gj w db gp D):Calls prog 350 #[some db] w λe w'=>e= .returned D.busy/\w=w':=by
 have a:=aq.cell h (i:=4) rfl;clear h;go_enter func350,ntmps350;go_wp2;go_ret;exact⟨rfl,rfl⟩
theorem x5(h:gj w db gp D):Calls prog 368 #[some db] w λe w'=>e= .returned D.clear/\w=w':=by
 have a:=aq.cell h (i:=7) rfl;clear h;go_enter func368,ntmps368;go_wp2;go_ret;exact⟨rfl,rfl⟩
theorem xZ(h:gj w db gp D)(a b:Int)(once:Bool):Calls prog 346 #[some db,a,b,once] w λe w'=>e= .returned (.bool (decide (b<=a)))/\gj w' db gp (D.Rw a b once)/\af [db] w w':=by
 have p:=aq.frozen h;have c1:=aq.cell h (i:=1) rfl;have c2:=aq.cell h (i:=2) rfl;have c3:=aq.cell h (i:=3) rfl;have q:=aq.cell h (i:=4) rfl;have r:=aq.cell h (i:=5) rfl;have s:=aq.cell h (i:=7) rfl;have hs:=(((aq.set h 1 (.int .i64 a)).set 2 (.int .i64 b)).set 3 (.bool once)).set 5 (.bool false);have m:af [db] w _:=((((af.refl _ w).set ⟨db,1,none⟩ (.int .i64 a) (.inl aS)).set ⟨db,2,none⟩ (.int .i64 b) (.inl aS)).set ⟨db,3,none⟩ (.bool once) (.inl aS)).set ⟨db,5,none⟩ (.bool false) (.inl aS);have H:Hy (gj _ db gp {D with at_:=a,Tj:=b,once:=once,second:=false}):=aH hs;have j:=aH m;clear h hs m;by_cases hle:b<=a
 ·have d:D.Rw a b once=DR.over {D with at_:=a,Tj:=b,once:=once,second:=false} true:=by unfold DR.Rw;rw[ad hle]
  rw[d,ef hle];have d1:decide (b<=a)=true:=by simpa using hle
  clear d hle;go_enter func346,ntmps346;go_wp2_with fail;refine gF (oZ H.o true) ?_;rintro w' ⟨k,l⟩;have n:=aH k;have c:=aH (j.o.trans l);clear k l;go_wp2;go_ret;exact⟨rfl,n.o,c.o⟩
 ·have d:D.Rw a b once={D with at_:=a,Tj:=b,once:=once,second:=false,busy:=true,clear:=false}:=by unfold DR.Rw;rw[ac hle]
  rw[d,dh hle];have d1:decide (b<=a)=false:=by simpa using hle
  clear d hle;have g:=(aq.set H.o 4 (.bool true)).set 7 (.bool false);have f:=(j.o.set ⟨db,4,none⟩ (.bool true) (.inl aS)).set ⟨db,7,none⟩ (.bool false) (.inl aS);have o:=aH g;have c:=aH f;clear g f;go_enter func346,ntmps346;go_wp2;go_ret;exact⟨rfl,o.o,c.o⟩
def s9(F:FuncId)(gp:Option Addr)(at_ v:Int)(db:Nat)(S:List Nat)(R:World->Prop)(w:World):Prop:=
 ∀wx,af [db] w wx->Calls prog F #[.pointer gp,at_] wx λe w'=>e= .returned v/\R w'/\af S wx w'
variable{S:List Nat}{R:World->Prop}{v:Int}
theorem x6(h:gj w db gp D)(y:s9 354 gp D.at_ v db S R w)(g:db∉S)(z:∀w1 w2,af [db] w1 w2->R w1->R w2):
 Calls prog 351 #[some db] w λe w'=>e= .returned false/\gj w' db gp (D.first v)/\R w'/\af (db::S) w w':=by
 have m:∀c,af S w c->c.cell? (db,0)=some (.pointer gp)/\c.cell? (db,1)=some (.int .i64 D.at_)/\c.cell? (db,6)=some (.int .i64 D.out)/\c.frozen? ⟨db,6,none⟩=false:=λc p=>⟨aq.cell (h.Rr p g) (i:=0) rfl,aq.cell (h.Rr p g) (i:=1) rfl,aq.cell (h.Rr p g) (i:=6) rfl,aq.frozen (h.Rr p g) 6⟩
 have n:=aH m;have A:=aH y;have H:=aH h;have j:=aH z;have B:=aH g;clear m y z h g;go_enter func351,ntmps351;go_wp2_with fail
 go_cut[] (λc=>gj c db gp {D with out:=v}/\R c/\af (db::S) w c)
 case first=>
  have c0:=(n.o w aF).1;have c1:=(n.o w aF).2.1;go_region_with(go_at_call 354;refine(A.o _ aD).mono ?_;rintro e w1 ⟨rfl,b,k⟩;have d:=aH (af.trans (S:=S) (a:=w) aD k);have r:=aH b;have G:=(n.o _ d.o).2.2.1;have I:=(n.o _ d.o).2.2.2;clear b k)
  all_goals
   go_wp2_with fail
   go_meet
   have u:=H.o.Rr d.o B.o;have l:af [db] w1 (w1.setCell (db,6) (.int .i64 v)):=aF.set ⟨db,6,none⟩ _ (.inl aS);exact⟨aq.set u 6 (.int .i64 v),j.o _ _ l r.o,(d.o.mono (by simp;intro x E;exact .inr E)).trans (l.mono aS)⟩
 case rest=>
  obtain⟨o,b,k⟩:=hcut;have F:=aq.cell o (i:=5) rfl;have C:=aq.frozen o;have hs:=aq.set o 5 (.bool true);have f:af [db] wc (wc.setCell (db,5) (.bool true)):=aF.set ⟨db,5,none⟩ _ (.inl aS);have t:=aH hs;have s:=aH (j.o _ _ f b);have q:=aH (k.trans (f.mono aS));clear o b k hs f;go_wp2;go_ret;exact⟨rfl,t.o,s.o,q.o⟩
theorem AT(h:gj w db gp D)(M:s9 355 gp D.at_ v db S R w)(O:db∉S)(N:∀w1 w2,af [db] w1 w2->R w1->R w2):
 Calls prog 352 #[some db] w λe w'=>e= .returned (.bool (D.Sv v))/\gj w' db gp (D.last v)/\R w'/\af (db::S) w w':=by
 have Q:=aq.cell h (i:=5) rfl;have t:=aq.frozen h;have hs:gj (w.setCell (db,5) (.bool false)) db gp {D with second:=false}:=aq.set h 5 (.bool false);have F:af [db] w (w.setCell (db,5) (.bool false)):=aF.set ⟨db,5,none⟩ _ (.inl aS);have H:=aH hs;have r:=aH F;have K:=aH M;have m:=aH N;have P:=aH O;clear M N h O hs F;go_enter func352,ntmps352;go_wp2_with fail;generalize w.setCell (db,5) (.bool false)=w0 at*;have U:=aq.cell H.o (i:=0) rfl;have k1:=aq.cell H.o (i:=1) rfl;clear Q t
 go_cut[3] (λs3 z=>s3= .int .i64 v/\R z/\af S w0 z)
 case first=>
  go_region_with(go_at_call 355;refine(K.o _ (by repeat (first|exact r.o|apply af.Rs|apply af.drew))).mono ?_;rintro e w1 ⟨rfl,b,g⟩;have c:=aH (af.trans (S:=S) (a:=w0) aD g);have d:=aH b;clear b g)
  all_goals
   go_wp2_with fail
   go_meet
   exact⟨rfl,d.o,c.o⟩
 case rest=>
  obtain⟨rfl,b,g⟩:=hcut;have f:=H.o.Rr g P.o;have I:=aH f;have d:=aH b;have c:=aH ((r.o.mono (S':=db::S) aS).trans (g.mono (by simp;intro x T;exact .inr T)));have c3:=aq.cell f (i:=3) rfl;have L:=aq.cell f (i:=6) rfl;have c1:=aq.cell f (i:=1) rfl;have c2:=aq.cell f (i:=2) rfl;have t:=aq.frozen f;simp only at c1 c2 c3 L;clear b g f U k1 H K r;by_cases hv:v=D.out
  ·have d1:(v !=D.out)=false:=by simpa using hv
   have o:D.last v=if wrap64 (D.at_+1)=D.Tj then DR.over {D with second:=false,at_:=wrap64 (D.at_+1)} true else{D with second:=false,at_:=wrap64 (D.at_+1)}:=by unfold DR.last;rw[ad hv]
   have p:D.Sv v=decide (wrap64 (D.at_+1)=D.Tj):=by unfold DR.Sv;rw[ad hv]
   have u:=aH o;have y:=aH p;clear o p hv
   go_upto_region 8 with fail
   have n:gj (wc.setCell (db,1) (.int .i64 (wrap64 (D.at_+1)))) db gp {D with second:=false,at_:=wrap64 (D.at_+1)}:=aq.set I.o 1 (.int .i64 (wrap64 (D.at_+1)));have s:af [db] wc (wc.setCell (db,1) (.int .i64 (wrap64 (D.at_+1)))):=aF.set ⟨db,1,none⟩ _ (.inl aS);have l:=aH (m.o _ _ s d.o);have k:=aH (c.o.trans (s.mono (S':=db::S) aS));generalize wc.setCell (db,1) (.int .i64 (wrap64 (D.at_+1)))=w5 at*;have j:=aH n;have k1:=aq.cell n (i:=1) rfl;have k2:=aq.cell n (i:=2) rfl;simp only at k1 k2;clear n s c1 c2 c3 L t I d c;generalize wrap64 (D.at_+1)=a1 at*;cases ht:decide (a1=D.Tj) with
   |true=>
    have d2:(a1==D.Tj)=true:=by simpa using ht
    have B:=aH (sJ ht);clear ht
    go_cut[2] (λs2 z=>s2= .bool true/\gj z db gp (DR.over {D with second:=false,at_:=a1} true)/\R z/\af (db::S) w z)
    case first=>
     go_region_with(go_at_call 349;refine(oZ (j.o.Rr (S:=[]) aD aS) true).mono ?_;rintro e w6 ⟨rfl,C,E⟩;have J:=aH C;have A:=aH (af.trans (S:=[db]) (a:=w5) aD E);clear C E)
     all_goals
      go_wp2_with fail
      go_meet
      exact⟨rfl,J.o,m.o _ _ A.o l.o,k.o.trans (A.o.mono aS)⟩
    case rest=>
     obtain⟨rfl,f,b,g⟩:=hcut;have q:=aH (ae f (ae b g));clear f b g;go_wp2;go_ret;exact⟨by rw[y.o,B.o];simp,by rw[u.o,ad B.o];exact q.o.1,q.o.2.1,q.o.2.2⟩
   |false=>
    have d2:(a1==D.Tj)=false:=by simpa using ht
    have B:=aH (of_decide_eq_false ht);clear ht
    go_quiet (fail)
    go_wp2;go_ret;have G:af [db] w5 (w5.drewN nq):=aF.drew _;exact⟨by rw[y.o,dh B.o];rfl,by rw[u.o,ac B.o];exact j.o.Rr (S:=[]) (aF.drew _) aS,m.o _ _ G l.o,k.o.trans (G.mono aS)⟩
  ·have d1:(v !=D.out)=true:=by simpa using hv
   cases ho:D.once with
   |true=>
    have o:D.last v=DR.over {D with second:=false} false:=by unfold DR.last;rw[ac hv,ho];rfl
    have p:D.Sv v=true:=by unfold DR.Sv;rw[ac hv,ho]
    have u:=aH o;have y:=aH p;rw[ho] at c3;clear o p hv ho;go_wp2_with fail;refine gF (oZ I.o false) ?_;rintro w' ⟨f,g⟩;have l:=aH (m.o _ _ g d.o);have j:=aH f;have k:=aH (c.o.trans (g.mono aS));clear f g;go_wp2;go_ret;exact⟨by rw[y.o];rfl,by rw[u.o];exact j.o,l.o,k.o⟩
   |false=>
    have o:D.last v={D with second:=false}:=by unfold DR.last;rw[ac hv,ho];rfl
    have p:D.Sv v=false:=by unfold DR.Sv;rw[ac hv,ho]
    have u:=aH o;have y:=aH p;rw[ho] at c3;clear o p hv ho;go_wp2;go_ret;exact⟨by rw[y.o];rfl,by rw[u.o];exact I.o,d.o,c.o⟩
theorem x7(h:gj w db gp D)(b:D.busy=false):Calls prog 347 #[some db] w λe w'=>e= .returned false/\w=w':=by
 have a:=oY h;rw[b] at a;have c:=aH a;clear h b a;go_enter func347,ntmps347;go_wp2_with fail;refine gF c.o ?_;rintro w' rfl;go_wp2;go_ret;exact⟨rfl,rfl⟩
theorem vL(h:gj w db gp D)(k:D.busy=true)(hs:D.second=false)(f:s9 354 gp D.at_ v db S R w)(j:db∉S)(g:∀w1 w2,af [db] w1 w2->R w1->R w2):
 Calls prog 347 #[some db] w λe w'=>e= .returned false/\gj w' db gp (D.first v)/\R w'/\af (db::S) w w':=by
 have b:=oY h;rw[k] at b;have l:=aH b;have o:=aq.cell h (i:=5) rfl;rw[hs] at o;have n:=aH (x6 h f j g);have p:= @aY prog;clear h k b hs f j g;go_enter func347,ntmps347;go_wp2_with fail;refine gF l.o ?_;rintro w' rfl;go_wp2_with(go_at_call 351;refine n.o.mono ?_;rintro e w' ⟨rfl,c,a,d⟩;have m:=aH (ae c (ae a d));clear c a d)
 go_ret;exact⟨rfl,m.o⟩
theorem x8(h:gj w db gp D)(k:D.busy=true)(hs:D.second=true)(f:s9 355 gp D.at_ v db S R w)(j:db∉S)(g:∀w1 w2,af [db] w1 w2->R w1->R w2):
 Calls prog 347 #[some db] w λe w'=>e= .returned (.bool (D.Sv v))/\gj w' db gp (D.last v)/\R w'/\af (db::S) w w':=by
 have b:=oY h;rw[k] at b;have l:=aH b;have o:=aq.cell h (i:=5) rfl;rw[hs] at o;have n:=aH (AT h f j g);have p:= @aY prog;clear h k b hs f j g;go_enter func347,ntmps347;go_wp2_with fail;refine gF l.o ?_;rintro w' rfl;go_wp2_with(go_at_call 352;refine n.o.mono ?_;rintro e w' ⟨rfl,c,a,d⟩;have m:=aH (ae c (ae a d));clear c a d)
 go_ret;exact⟨rfl,m.o⟩
end
def DR.step(D:DR)(vo vi:Int):DR:=if D.busy then(if D.second then D.last vi else D.first vo) else D
def DR.RD(D:DR)(vi:Int):Bool:=D.busy&&D.second&&D.Sv vi
def AR.ST(A:AR)(first nodes:Nat)(D:DR):AR:=if D.busy then A.SA first nodes D.at_ (if D.second then 0 else 1) else A
theorem AU{w:World}{db gb ab wb first a:Nat}{D:DR}{A:AR}(h:gj w db (some ⟨gb,0,none⟩) D)(f:mT w gb ab first a)(d:ax w ab wb A)(g:db≠gb/\db≠ab/\db≠wb/\gb≠ab/\gb≠wb):
 Calls prog 347 #[some db] w λe w'=>e= .returned (.bool (D.RD (A.Sy first a D.at_ 0)))/\
  gj w' db (some ⟨gb,0,none⟩) (D.step (A.Sy first a D.at_ 1) (A.Sy first a D.at_ 0))/\ax w' ab wb (A.ST first a D)/\mT w' gb ab first a/\af [db,ab,wb] w w':=by
 obtain⟨n1,j,k,l,m⟩:=g;cases b:D.busy with
 |false=>
  refine(x7 h b).mono λe w' ⟨h1,h2⟩=>?_;subst h1 h2;refine⟨by unfold DR.RD;rw[b];rfl,by unfold DR.step;rw[b];exact h,by unfold AR.ST;rw[b];exact d,f,aF⟩
 |true=>
  cases hs:D.second with
  |false=>
   have ht:s9 354 (some ⟨gb,0,none⟩) D.at_ (A.Sy first a D.at_ 1) db [ab,wb] (λw'=>ax w' ab wb (A.SA first a D.at_ 1)) w:=λi c=>Dk (f.Rr c aQ) (d.Rr c aQ aQ) D.at_;refine(vL h b hs ht aQ (λw1 w2 c d=>d.Rr c aQ aQ)).mono λe w' ⟨h1,h2,h3,h4⟩=>?_;subst h1;refine⟨by unfold DR.RD;rw[hs];simp,by unfold DR.step;rw[b,hs];exact h2,by unfold AR.ST;rw[b,hs];exact h3,f.Rr h4 aQ,h4⟩
  |true=>
   have ht:s9 355 (some ⟨gb,0,none⟩) D.at_ (A.Sy first a D.at_ 0) db [ab,wb] (λw'=>ax w' ab wb (A.SA first a D.at_ 0)) w:=λi c=>G0 (f.Rr c aQ) (d.Rr c aQ aQ) D.at_;refine(x8 h b hs ht aQ (λw1 w2 c d=>d.Rr c aQ aQ)).mono λe w' ⟨h1,h2,h3,h4⟩=>?_;subst h1;refine⟨by unfold DR.RD;rw[b,hs];rfl,by unfold DR.step;rw[b,hs];exact h2,by unfold AR.ST;rw[b,hs];exact h3,f.Rr h4 aQ,h4⟩
end Go.Proofs.YteijjhahgabalaaGreat
