/- Contracts over a state: a call leads from a world of one state to a world of another one. -/
import Derived.Handy
import Derived.Test.YteijjhahgabalaaGreatWF02
import Derived.Test.YteijjhahgabalaaGreatWF06
import Derived.Test.YteijjhahgabalaaGreatWF19
set_option maxRecDepth 100000
set_option maxHeartbeats 8000000
set_option linter.all false
namespace Go.Proofs.YteijjhahgabalaaGreat
open Go.RowKit
open Tryz
section
variable{X:Type}
def Ct(D:World->X->Prop)(N:Nat)(args:Array Value)(x:X)(r:Value)(x':X):Prop:=∀w,D w x->Calls prog N args w λe w'=>e= .returned r/\D w' x'
def SD(D:World->X->Prop)(R:X->Prop):World->Prop:=λw=>∃x,D w x/\R x
variable{D:World->X->Prop}{N:Nat}{args:Array Value}{x x':X}{r:Value}{w:World}{R:X->Prop}
variable{U:Ending->World->Prop}
theorem lP(h:Ct D N args x r x')(a:Hy (D w x))(k:∀w',Hy (D w' x')->U (.returned r) w'):Calls prog N args w U:=(h w a.o).mono λe w' ⟨h1,h2⟩=>h1 ▸ k w' h2
variable{P:Program}{Q:Exit->Act->World->Prop}{id:Nat}{a:Act}{l:List Oper}{tl:List Nat}{L:List (List Oper×Oper)}
theorem aZd(R:X->Prop)(b:Hy (D w x))(hd:D w x->D w.drew x)(e:R x){d:List (List Nat×Nat)}{T:List Oper}(h1:E4 l 40 [] [] []=some (d,tl,L,T))(H:O7 P Q l d tl L T)(k:∀w,Hy (D w x)->Nonempty (HW (SD D R))->IT P l.toArray Q (SD D R) L T a w):(Code.region id l.toArray true).wp P Q a w:=
 have c:SD D R w.drew:=⟨x,hd b.o,e⟩
 aZg (SD D R) h1 c (k _ (hd b.o) ⟨⟨_,c⟩⟩) H
variable{G:Act->World->Prop}
theorem Rk(b:Hy (D w x))(c:R x)(k:G a w):eL Q (λa w=>SD D R w/\G a w) .normal a w:=ah ⟨⟨x,b.o,c⟩,k⟩
variable{p:Addr}{v:Value}
theorem Ev(h:D (w.setCell p v) x)(b:R x)(k:∀w,Hy (D w x)->G a w):eL Q (λa w=>SD D R w/\G a w) .normal a (w.setCell p v):=ah ⟨⟨x,h,b⟩,k _ h⟩
variable{ops:Array Oper}
theorem KG(h:D (w.setCell p v) x)(k:∀w,Hy (D w x)->wpList P ops Q l a w):wpList P ops Q l a (w.setCell p v):=k _ h
variable{c:Code}
theorem C6(h:D (w.setCell p v) x)(k:∀w,Hy (D w x)->c.wp P Q a w):c.wp P Q a (w.setCell p v):=k _ h
theorem Gy(h:D (w.setCell p v) x)(k:∀w,Hy (D w x)->Calls P N args w U):Calls P N args (w.setCell p v) U:=k _ h
variable{o:Obj}
theorem PC(h:D (w.alloc o) x)(k:∀w,Hy (D w x)->Calls P N args w U):Calls P N args (w.alloc o) U:=k _ h
theorem Nj(h:D (w.alloc o) x)(k:∀w,Hy (D w x)->c.wp P Q a w):c.wp P Q a (w.alloc o):=k _ h
theorem KF(h:D (w.alloc o) x)(k:∀w,Hy (D w x)->wpList P ops Q l a w):wpList P ops Q l a (w.alloc o):=k _ h
variable{p q:X×Int}
theorem qe{c:Prop}[Decidable c](h1:c->Ct D N args x (.int .i64 p.2) p.1)(h2:¬c->Ct D N args x (.int .i64 q.2) q.1):Ct D N args x (.int .i64 (if c then p else q).2) (if c then p else q).1:=by
 split
 ·exact h1 ‹_›
 ·exact h2 ‹_›
theorem Hs{c:Bool}(h1:c=true->Ct D N args x (.int .i64 p.2) p.1)(h2:c=false->Ct D N args x (.int .i64 q.2) q.1):Ct D N args x (.int .i64 (if c=true then p else q).2) (if c=true then p else q).1:=qe h1 λh=>h2 (by simpa using h)
structure Tg(t:Nat):Prop
def fR(F:X->Nat->Int)(t:Nat)(x y:X):Prop:=t=99\/∀b,b≠t->F y b=F x b
variable{F:X->Nat->Int}{t:Nat}
theorem P8:fR F t x x:=.inr λ_ _=>rfl
variable{U:List Oper}{C:World->Prop}
theorem Ps(T:Tg t)(d:Hy (D w x))(hd:∀{w x},D w x->D w.drew x)(e:∀w,SD D (fR F t x) w->C w){c:List (List Nat×Nat)}(h1:E4 l 40 [] [] []=some (c,tl,L,U))(k:∀w,Hy (D w x)->Nonempty (HW (SD D (fR F t x)))->(∀q:HW (SD D (fR F t x)),C q.w)->IT P l.toArray Q (SD D (fR F t x)) L U a w)(H:O7 P Q l c tl L U:=by constructor<;>first|kernel_rfl|exactλ_ _ _ _ _ h=>h):(Code.region id l.toArray true).wp P Q a w:=
 aZd _ d hd (.inr λ_ _=>rfl) h1 H λw f b=>k w f b λq=>e _ q.h
def QD(l:List Oper):Bool:=l.all λo=>match o.op with| .store .. =>false|_=>true
theorem Ra(c:Hy (D w x))(hd:∀{w x},D w x->D w.drew x)(d:∀w,SD D (fR F 98 x) w->C w)(hn:QD l=true){b:List (List Nat×Nat)}(h1:E4 l 40 [] [] []=some (b,tl,L,U))(k:∀w,Hy (D w x)->Nonempty (HW (SD D (fR F 98 x)))->(∀q:HW (SD D (fR F 98 x)),C q.w)->IT P l.toArray Q (SD D (fR F 98 x)) L U a w)(H:O7 P Q l b tl L U:=by constructor<;>first|kernel_rfl|exactλ_ _ _ _ _ h=>h):(Code.region id l.toArray true).wp P Q a w:=Ps ⟨⟩ c hd d h1 k H
structure xF(D:World->X->Prop)(ab wb:Nat)(g:X->AR)(s:X->AR->X):Prop where
 get:∀{w x},D w x->ax w ab wb (g x)
 put:∀{w w' x A},D w x->af [ab,wb] w w'->ax w' ab wb A->D w' (s x A)
variable{ab wb:Nat}{g:X->AR}{s:X->AR->X}
theorem xF.load(H:xF D ab wb g s)(x:X)(i:Int):Ct D 106 #[some ab,i] x (.int .i64 ((g x).get i)) (s x ((g x).load i)):=λw h=>(fh (H.get h) i).mono λe w' ⟨h1,h2,h3⟩=>⟨h1,H.put h h3 h2⟩
theorem xF.store(H:xF D ab wb g s)(x:X)(i v:Int):Ct D 63 #[some ab,i,v] x (.tuple #[]) (s x ((g x).store i v)):=λw h=>(iN (H.get h) i v).mono λe w' ⟨h1,h2,h3⟩=>⟨h1,H.put h h3 h2⟩
theorem xF.swap(H:xF D ab wb g s)(x:X)(i v:Int):Ct D 207 #[some ab,i,v] x (.int .i64 ((g x).get i)) (s x ((g x).swap i v)):=λw h=>(Cg (H.get h) i v).mono λe w' ⟨h1,h2,h3⟩=>⟨h1,H.put h h3 h2⟩
theorem xF.Sd(H:xF D ab wb g s)(x:X)(i o v:Int):Ct D 165 #[some ab,i,o,v] x (.bool ((g x).RE i o)) (s x ((g x).Sd i o v)):=λw h=>(Gg (H.get h) i o v).mono λe w' ⟨h1,h2,h3⟩=>⟨h1,H.put h h3 h2⟩
theorem xF.add(H:xF D ab wb g s)(x:X)(i d:Int):Ct D 179 #[some ab,i,d] x (.int .i64 ((g x).RH i d)) (s x ((g x).add i d)):=λw h=>(qq (H.get h) i d).mono λe w' ⟨h1,h2,h3⟩=>⟨h1,H.put h h3 h2⟩
end
theorem Mz{a b:Int}(h:¬a=b):(a==b)=false/\(a !=b)=true:=⟨by simpa using h,by simpa using h⟩
theorem dK(S:Nat->Nat->Int)(i t:Nat)(v:Int)(a b:Nat):aa S i t v a b=if a=i/\b=t then v else S a b:=rfl
theorem Nw(n:Nat)(i:Int):(bC n i=false/\i<0)\/(bC n i=false/\¬i<0/\(n:Int)<=i)\/∃j:Nat,i=j/\j<n/\bC n j=true:=by
 unfold bC;by_cases h1:i<0
 ·exact .inl ⟨aB,h1⟩
 ·by_cases h2:(n:Int)<=i
  ·exact .inr (.inl ⟨aB,h1,h2⟩)
  ·exact .inr (.inr ⟨i.toNat,by omega,by omega,aT⟩)
def de(w:World)(b:Nat):Nat->List Value->Prop
 |_,[]=>True
 |i,v::l=>w.cell? (b,i)=some v/\de w b (i+1) l
variable{w:World}{b:Nat}{vs:List Value}{T:TypeId}
theorem kB(h:aq w b vs T):∀{l:List Value}{i:Nat},vs.drop i=l->de w b i l
 | [],_,_=>trivial
 |v::l,i,e=>⟨h.cell (by rw[<-ve i,<-I6,e];rfl),kB h (by rw[<-List.tail_drop,e];rfl)⟩
def ii(w:World):List (Nat×List Value×TypeId)->Prop
 | []=>True
 |e::l=>de w e.1 0 e.2.1/\ii w l
variable{p:Prop}
theorem gX(h:p:=by
 go_wp2_with(first
  |(with_reducible refine JE ?_)
  |(with_reducible refine JF ?_)
  |((with_reducible refine Rk HS ?_ ?_);(first|with_reducible exact P8|exact .inr λb hb=>RA.o rfl rfl|exact .inr λb hb=>RA.o rfl|exact .inr λb hb=>RP.o rfl rfl hb|exact .inr λb hb=>RP.o rfl hb|exact .inr λb hb=>RQ.o rfl hb|exact .inl rfl))
  |((first|with_reducible refine Ev (Pa.o HS.o _) ?_ ?_|with_reducible refine Ev (Pb.o HS.o _) ?_ ?_|with_reducible refine Ev (Pc.o HS.o _) ?_ ?_|with_reducible refine Ev (Pd.o HS.o _) ?_ ?_|with_reducible refine Ev (Pe.o HS.o _) ?_ ?_);(first|with_reducible exact P8|exact .inr λb hb=>RA.o rfl rfl|exact .inr λb hb=>RA.o rfl|exact .inr λb hb=>RP.o rfl rfl hb|exact .inr λb hb=>RP.o rfl hb|exact .inr λb hb=>RQ.o rfl hb|exact .inl rfl);clear HS C;intro w HS;have C:=CK.o HS.o;(try simp[dK,de,ii] at C))
  |((first|with_reducible refine KG (Pa.o HS.o _) ?_|with_reducible refine KG (Pb.o HS.o _) ?_|with_reducible refine KG (Pc.o HS.o _) ?_|with_reducible refine C6 (Pa.o HS.o _) ?_|with_reducible refine C6 (Pb.o HS.o _) ?_|with_reducible refine C6 (Pc.o HS.o _) ?_|with_reducible refine C6 (Pd.o HS.o _) ?_|with_reducible refine C6 (Pe.o HS.o _) ?_);clear HS C;intro w HS;have C:=CK.o HS.o;(try simp[dK,de,ii] at C))
  |((first|with_reducible refine Gy (Pa.o HS.o _) ?_|with_reducible refine Gy (Pb.o HS.o _) ?_|with_reducible refine Gy (Pc.o HS.o _) ?_|with_reducible refine Gy (Pd.o HS.o _) ?_);clear HS C;intro w HS;have C:=CK.o HS.o;(try simp[dK,de,ii] at C))
  |((first|with_reducible refine Nj (DA.o HS.o _) ?_|with_reducible refine PC (DA.o HS.o _) ?_);clear HS C;intro w HS;have C:=CK.o HS.o;(try simp[dK,de,ii] at C))
  |((with_reducible refine KF (DA.o HS.o _) ?_);clear HS C;intro w HS;have C:=CK.o HS.o;(try simp[dK,de,ii] at C))
  |(go_at_call 106;refine lP (HA.o.load _ _) HS ?_;clear HS C;intro w HS;have C:=CK.o HS.o;(try simp[dK,de,ii] at C))
  |(go_at_call 63;refine lP (HA.o.store _ _ _) HS ?_;clear HS C;intro w HS;have C:=CK.o HS.o;(try simp[dK,de,ii] at C))
  |(go_at_call 207;refine lP (HA.o.swap _ _ _) HS ?_;clear HS C;intro w HS;have C:=CK.o HS.o;(try simp[dK,de,ii] at C))
  |(go_at_call 165;refine lP (HA.o.Sd _ _ _ _) HS ?_;clear HS C;intro w HS;have C:=CK.o HS.o;(try simp[dK,de,ii] at C))
  |(go_at_call 179;refine lP (HA.o.add _ _ _) HS ?_;clear HS C;intro w HS;have C:=CK.o HS.o;(try simp[dK,de,ii] at C))
  |((with_reducible refine lP K1.o HS ?_);clear HS C;intro w HS;have C:=CK.o HS.o;(try simp[dK,de,ii] at C))
  |((with_reducible refine lP K2.o HS ?_);clear HS C;intro w HS;have C:=CK.o HS.o;(try simp[dK,de,ii] at C))
  |((with_reducible refine lP K3.o HS ?_);clear HS C;intro w HS;have C:=CK.o HS.o;(try simp[dK,de,ii] at C))
  |((with_reducible refine lP K4.o HS ?_);clear HS C;intro w HS;have C:=CK.o HS.o;(try simp[dK,de,ii] at C))
  |((with_reducible refine lP K5.o HS ?_);clear HS C;intro w HS;have C:=CK.o HS.o;(try simp[dK,de,ii] at C))
  |((with_reducible refine lP K6.o HS ?_);clear HS C;intro w HS;have C:=CK.o HS.o;(try simp[dK,de,ii] at C))
  |((with_reducible refine lP K7.o HS ?_);clear HS C;intro w HS;have C:=CK.o HS.o;(try simp[dK,de,ii] at C))
  |((with_reducible refine lP K8.o HS ?_);clear HS C;intro w HS;have C:=CK.o HS.o;(try simp[dK,de,ii] at C))
  |((with_reducible refine lP K9.o HS ?_);clear HS C;intro w HS;have C:=CK.o HS.o;(try simp[dK,de,ii] at C))
  |((with_reducible refine lP (K6.o _ _ _ (by exact GT)) HS ?_);clear HS C;intro w HS;have C:=CK.o HS.o;(try simp[dK,de,ii] at C))
  |((with_reducible refine lP (K6.o _ _ _) HS ?_);clear HS C;intro w HS;have C:=CK.o HS.o;(try simp[dK,de,ii] at C))
  |((first|with_reducible refine lP (K1.o _ _) HS ?_|with_reducible refine lP (K2.o _ _) HS ?_|with_reducible refine lP (K3.o _ _) HS ?_);clear HS C;intro w HS;have C:=CK.o HS.o;(try simp[dK,de,ii] at C))
  |((with_reducible refine lP (K1.o _) HS ?_);clear HS C;intro w HS;have C:=CK.o HS.o;(try simp[dK,de,ii] at C))
  |((with_reducible refine lP (K2.o _) HS ?_);clear HS C;intro w HS;have C:=CK.o HS.o;(try simp[dK,de,ii] at C))
  |((with_reducible refine lP (K3.o _) HS ?_);clear HS C;intro w HS;have C:=CK.o HS.o;(try simp[dK,de,ii] at C))
  |((with_reducible refine lP (K4.o _) HS ?_);clear HS C;intro w HS;have C:=CK.o HS.o;(try simp[dK,de,ii] at C))
  |((with_reducible refine lP (K5.o _) HS ?_);clear HS C;intro w HS;have C:=CK.o HS.o;(try simp[dK,de,ii] at C))
  |((with_reducible refine NN ?_);(first|refine Ps HZ HS DR.o (λ_=>CZ.o) rfl ?_|refine Ra HS DR.o (λ_=>CZ.o) rfl rfl ?_|refine Ps HT HS DR.o (λ_=>CZ.o) rfl ?_);clear HS C;(try clear hz hne);intro w HS hne hz;(try simp[dK,de,ii] at hz);have C:=CK.o HS.o;(try simp[dK,de,ii] at C)))
 all_goals
  go_returns
  first|exact⟨rfl,HS.o⟩|exact⟨rfl,Pa.o HS.o _⟩|exact⟨rfl,Pb.o HS.o _⟩|exact⟨rfl,Pc.o HS.o _⟩|exact⟨rfl,Pd.o HS.o _⟩|exact⟨rfl,Pe.o HS.o _⟩):p:=h
theorem gW(h:p:=by
 have NB:= @Mz
 go_in
 exact gX):p:=h
section
variable{X:Type}{D:World->X->Prop}{w w':World}{x:X}{lb sb n j:Nat}{cs:List Value}{T:TypeId}{S:X->Nat->Nat->Int}{pt:X->(Nat->Nat->Int)->X}
structure Cd(D:World->X->Prop)(lb:Nat)(cs:List Value)(T:TypeId)(sb n:Nat)(S:X->Nat->Nat->Int):Prop where
 c:∀{w x},D w x->aq w lb cs T
 r:∀{w x},D w x->aq w sb (dJ n (S x)) 138
 n:∀{w x},D w x->n<=32
 f:∀{w w' x},D w x->af [] w w'->D w' x
theorem Cd.k(R:Cd D lb cs T sb n S)(hj:j<n)(h:D w x):de w lb 0 cs/\(∀i,w.frozen? ⟨sb,i,none⟩=false)/\n<=32/\(j:Int)<n/\¬n<=j/\w.cell? (sb,j*4)=some (.int .i64 (S x j 0))/\w.cell? (sb,j*4+1)=some (.int .i64 (S x j 1))/\w.cell? (sb,j*4+2)=some (.int .i64 (S x j 2))/\w.cell? (sb,j*4+3)=some (.int .i64 (S x j 3)):=by
 have q:∀t,t<4->w.cell? ⟨sb,j*4+t,none⟩=some (.int .i64 (S x j t)):=λt ht=>(R.r h).cell (a9 _ _ hj ht);exact⟨kB (R.c h) rfl,(R.r h).frozen,R.n h,by omega,by omega,q 0 aO,q 1 aO,q 2 aO,q 3 aO⟩
theorem Cd.g(R:Cd D lb cs T sb n S)(a:∀{w x},D w x->∀t v,t<4->D (w.setCell ⟨sb,j*4+t,none⟩ (.int .i64 v)) (pt x (aa (S x) j t v)))(hj:j<n):Hy (∀{w x},D w x->de w lb 0 cs/\(∀i,w.frozen? ⟨sb,i,none⟩=false)/\n<=32/\(j:Int)<n/\¬n<=j/\w.cell? (sb,j*4)=some (.int .i64 (S x j 0))/\w.cell? (sb,j*4+1)=some (.int .i64 (S x j 1))/\w.cell? (sb,j*4+2)=some (.int .i64 (S x j 2))/\w.cell? (sb,j*4+3)=some (.int .i64 (S x j 3)))/\
 Hy (∀{w x},D w x->D w.drew x)/\Hy (∀{w x},D w x->∀o,D (w.alloc o) x)/\
 Hy (∀{w x},D w x->∀v,D (w.setCell (sb,j*4) (.int .i64 v)) (pt x (aa (S x) j 0 v)))/\Hy (∀{w x},D w x->∀v,D (w.setCell (sb,j*4+1) (.int .i64 v)) (pt x (aa (S x) j 1 v)))/\Hy (∀{w x},D w x->∀v,D (w.setCell (sb,j*4+2) (.int .i64 v)) (pt x (aa (S x) j 2 v)))/\Hy (∀{w x},D w x->∀v,D (w.setCell (sb,j*4+3) (.int .i64 v)) (pt x (aa (S x) j 3 v)))/\
 Hy (∀{t}{w:World}{x},SD D (fR (λx b=>S x j b) t x) w->de w lb 0 cs/\(∀i,w.frozen? ⟨sb,i,none⟩=false)/\n<=32/\(t≠99->(0≠t->w.cell? (sb,j*4)=some (.int .i64 (S x j 0)))/\(1≠t->w.cell? (sb,j*4+1)=some (.int .i64 (S x j 1)))/\(2≠t->w.cell? (sb,j*4+2)=some (.int .i64 (S x j 2)))/\(3≠t->w.cell? (sb,j*4+3)=some (.int .i64 (S x j 3)))))/\
 Hy (∀{x y b},S y=S x->S y j b=S x j b)/\Hy (∀{t b v}{x y:X},S y=aa (S x) j t v->b≠t->S y j b=S x j b):=by
 refine⟨R.k hj,λh=>R.f h (af.refl [] _).Rs,λh _=>R.f h ((af.refl [] _).alloc _),λh v=>a h 0 v aO,λh v=>a h 1 v aO,λh v=>a h 2 v aO,λh v=>a h 3 v aO,λ{t w x} ⟨y,c,e⟩=>⟨kB (R.c c) rfl,(R.r c).frozen,R.n c,λht=>?_⟩,λe=>by rw[e],λe h=>by rw[e];simp[dK,h]⟩;have f:∀b,b<4->b≠t->w.cell? ⟨sb,j*4+b,none⟩=some (.int .i64 (S x j b)):=λb d h=>((R.r c).cell (a9 _ _ hj d)).trans (by rw[show S y j b=S x j b from e.resolve_left ht b h]);exact⟨f 0 aO,f 1 aO,f 2 aO,f 3 aO⟩
theorem Rf{N n:Nat}{args:Array Value}{fr a:Int}{S:Nat->Nat->Int}{pt:(Nat->Nat->Int)->X}(hj:j<n)(b:pt S=x)(h1:S j 0=fr->Ct D N args x (.bool true) (pt (aa S j 0 a)))(h2:¬S j 0=fr->Ct D N args x (.bool false) x):Ct D N args x (.bool (ai n S j fr)) (pt (bo n S j fr a)):=by
 unfold bo ai bC;by_cases h:S j 0=fr
 ·simpa[h,hj] using h1 h
 ·simpa[h,b] using h2 h
end
structure FB where
 lb:Nat
 sb:Nat
 ab:Nat
 wb:Nat
 cp:Nat
 ex:List Value
 xs:List (Nat×List Value×TypeId)
structure RX where
 A:AR
 S:Nat->Nat->Int
def B2(B:FB)(K:FK):List Value:=if K.k=1 then[some B.ab,K.b,K.p,.slice (some ⟨B.sb,0,none⟩) K.n B.cp] else if K.k=2 then[.slice (some ⟨B.sb,0,none⟩) K.n B.cp,some B.ab,K.b] else if K.k=3 then[some B.ab,K.b,K.p,.slice (some ⟨B.sb,0,none⟩) K.n B.cp] else[some B.ab,K.b,.slice (some ⟨B.sb,0,none⟩) K.n B.cp]
def Hu(k:Nat):TypeId:=if k=1 then 144 else if k=2 then 148 else if k=3 then 150 else if k=4 then 153 else if k=6 then 247 else 155
structure xA(B:FB)(K:FK)(cs:List Value)(xs:List (Nat×List Value×TypeId)):Prop where
 c:B2 B K=cs
 x:B.xs=xs
structure qV(B:FB)(K:FK)(w:World)(x:RX):Prop where
 box:aq w B.lb (B2 B K) (Hu K.k)
 row:aq w B.sb (dJ K.n x.S++B.ex) 138
 ar:ax w B.ab B.wb x.A
 xt:∀e∈B.xs,aq w e.1 e.2.1 e.2.2/\e.2.2∉[138,93,158]
 Ry:K.n<=32
 b:K.b<=4096
 p:K.k=1\/K.k=3->1<=K.p/\K.p<=1024
theorem aq.apart{e:Nat}{c:List Value}{d:TypeId}(h:aq w b vs T)(a:aq w e c d)(ht:T≠d):b≠e:=by
 rintro rfl;unfold aq at h a;rw[h] at a;have:=nE a;injection this with _ h2;exact ht h2
theorem lT(n:Nat)(i:Int):(bC n i=false/\i<0)\/(bC n i=false/\¬i<0/\(n:Int)<=i)\/∃j:Nat,i=j/\j<n/\bC n j=true/\(j:Int)<n/\¬n<=j:=by
 unfold bC;by_cases h1:i<0
 ·exact .inl ⟨aB,h1⟩
 ·by_cases h2:(n:Int)<=i
  ·exact .inr (.inl ⟨aB,h1,h2⟩)
  ·exact .inr (.inr ⟨i.toNat,by omega,by omega,aT,by omega,by omega⟩)
abbrev FB.z(B:FB):List Nat:=[B.sb,B.ab,B.wb]
theorem zS{B:FB}:B.sb∈B.z:=by simp
def rD(w0:World)(Z:List Nat)(B:FB)(K:FK)(w:World)(x:RX):Prop:=qV B K w x/\af Z w0 w
section
variable{w0 w w':World}{Z:List Nat}{B:FB}{K:FK}{x:RX}{j:Nat}
theorem iq(k:Nat){T:TypeId}(h:T∉[144,148,150,153,155,247]):Hu k≠T:=by
 rintro rfl;apply h;unfold Hu
 (repeat' split)<;>simp
theorem qV.ne(h:qV B K w x):B.lb≠B.sb/\B.lb≠B.ab/\B.lb≠B.wb/\B.sb≠B.ab/\B.sb≠B.wb:=
 ⟨h.box.apart h.row (iq _ aJ),h.box.apart h.ar.box (iq _ aJ),h.box.apart h.ar.row (iq _ aJ),h.row.apart h.ar.box aJ,h.row.apart h.ar.row aJ⟩
theorem qV.xz(h:qV B K w x):∀e∈B.xs,e.1∉B.z:=λe a hm=>by
 obtain⟨h1,h2⟩:=h.xt e a;simp only[kq,List.not_mem_nil,or_false,not_or] at h2;rcases(by simpa using hm:e.1=B.sb\/e.1=B.ab\/e.1=B.wb) with g|g|g
 ·exact h1.apart h.row h2.1 g
 ·exact h1.apart h.ar.box h2.2.1 g
 ·exact h1.apart h.ar.row h2.2.2 g
theorem qV.re(h:qV B K w x){Z:List Nat}(b:af Z w w')(h1:B.lb∉Z)(h2:B.sb∉Z)(h3:∀e∈B.xs,e.1∉Z){A:AR}(c:ax w' B.ab B.wb A):qV B K w' ⟨A,x.S⟩:={h with box:=h.box.Rr b h1,row:=h.row.Rr b h2,ar:=c,xt:=λe a=>⟨(h.xt e a).1.Rr b (h3 e a),(h.xt e a).2⟩}
theorem qV.same(h:qV B K w x)(a:af [] w w'):qV B K w' x:=h.re a aS aS aS (h.ar.Rr a aS aS)
variable{t:Nat}
theorem qV.put(h:qV B K w x)(hj:j<K.n)(ht:t<4)(v:Int):qV B K (w.setCell (B.sb,j*4+t) (.int .i64 v)) ⟨x.A,aa x.S j t v⟩:=by
 have c:=h.row.set (j*4+t) (.int .i64 v);rw[IK hj ht] at c;have b:af [B.sb] w (w.setCell (B.sb,j*4+t) (.int .i64 v)):=aU;have hn:=h.ne;have d:=h.xz;exact{h with box:=h.box.Rr b aQ,row:=c,ar:=h.ar.Rr b aQ aQ,xt:=λe a=>⟨(h.xt e a).1.Rr b (by have:=d e a;simp at this;simp;omega),(h.xt e a).2⟩}
theorem rD.drew(h:rD w0 Z B K w x):rD w0 Z B K w.drew x:=⟨h.1.same (af.refl [] _).Rs,h.2.Rs⟩
theorem rD.al(h:rD w0 Z B K w x)(o:Obj):rD w0 Z B K (w.alloc o) x:=⟨h.1.same ((af.refl [] _).alloc _),h.2.alloc _⟩
theorem yZ{l:List (Nat×List Value×TypeId)}(e:B.xs=l)(h:∀e∈B.xs,aq w e.1 e.2.1 e.2.2/\e.2.2∉[138,93,158]):ii w l:=by
 rw[e] at h;clear e;induction l with
 |nil=>trivial
 |cons a l c=>exact⟨kB (h a aS).1 rfl,c λe b=>h e (by simp[b])⟩
theorem rK{cs:List Value}{xs:List (Nat×List Value×TypeId)}(E:xA B K cs xs)(h:rD w0 Z B K w x):de w B.lb 0 cs/\(∀i,w.frozen? ⟨B.lb,i,none⟩=false)/\(∀i,w.frozen? ⟨B.sb,i,none⟩=false)/\K.n<=32/\K.b<=4096/\ii w xs:=⟨kB h.1.box E.c,h.1.box.frozen,h.1.row.frozen,h.1.Ry,h.1.b,yZ E.x h.1.xt⟩
def rF(j:Nat)(x:RX)(b:Nat):Int:=x.S j b
theorem rP(h:rD w0 Z B K w x)(a:B.sb∈Z)(hj:j<K.n)(ht:t<4)(v:Int):rD w0 Z B K (w.setCell (B.sb,j*4+t) (.int .i64 v)) ⟨x.A,aa x.S j t v⟩:=⟨h.1.put hj ht v,h.2.set _ _ (.inl a)⟩
theorem Lu{cs:List Value}{xs:List (Nat×List Value×TypeId)}(E:xA B K cs xs)(hj:j<K.n)(h:rD w0 Z B K w x):de w B.lb 0 cs/\(∀i,w.frozen? ⟨B.lb,i,none⟩=false)/\(∀i,w.frozen? ⟨B.sb,i,none⟩=false)/\K.n<=32/\K.b<=4096/\ii w xs/\(j:Int)<K.n/\¬K.n<=j/\w.cell? (B.sb,j*4)=some (.int .i64 (x.S j 0))/\w.cell? (B.sb,j*4+1)=some (.int .i64 (x.S j 1))/\w.cell? (B.sb,j*4+2)=some (.int .i64 (x.S j 2))/\w.cell? (B.sb,j*4+3)=some (.int .i64 (x.S j 3)):=by
 have cs:∀t,t<4->w.cell? ⟨B.sb,j*4+t,none⟩=some (.int .i64 (x.S j t)):=λt ht=>h.1.row.cell (z9 hj ht);exact⟨kB h.1.box E.c,h.1.box.frozen,h.1.row.frozen,h.1.Ry,h.1.b,yZ E.x h.1.xt,by omega,by omega,cs 0 aO,cs 1 aO,cs 2 aO,cs 3 aO⟩
variable{cs:List Value}{xs:List (Nat×List Value×TypeId)}
theorem rI(E:xA B K cs xs)(c:B.sb∈Z)(hj:j<K.n)(h:rD w0 Z B K w x):Hy (∀{w x},rD w0 Z B K w x->de w B.lb 0 cs/\(∀i,w.frozen? ⟨B.lb,i,none⟩=false)/\(∀i,w.frozen? ⟨B.sb,i,none⟩=false)/\K.n<=32/\K.b<=4096/\ii w xs/\(j:Int)<K.n/\¬K.n<=j/\w.cell? (B.sb,j*4)=some (.int .i64 (x.S j 0))/\w.cell? (B.sb,j*4+1)=some (.int .i64 (x.S j 1))/\w.cell? (B.sb,j*4+2)=some (.int .i64 (x.S j 2))/\w.cell? (B.sb,j*4+3)=some (.int .i64 (x.S j 3)))/\
 Hy (∀{w x},rD w0 Z B K w x->rD w0 Z B K w.drew x)/\
 Hy (∀{w x},rD w0 Z B K w x->∀o,rD w0 Z B K (w.alloc o) x)/\
 Hy (∀{w x},rD w0 Z B K w x->∀v,rD w0 Z B K (w.setCell (B.sb,j*4) (.int .i64 v)) ⟨x.A,aa x.S j 0 v⟩)/\
 Hy (∀{w x},rD w0 Z B K w x->∀v,rD w0 Z B K (w.setCell (B.sb,j*4+1) (.int .i64 v)) ⟨x.A,aa x.S j 1 v⟩)/\
 Hy (∀{w x},rD w0 Z B K w x->∀v,rD w0 Z B K (w.setCell (B.sb,j*4+2) (.int .i64 v)) ⟨x.A,aa x.S j 2 v⟩)/\
 Hy (∀{w x},rD w0 Z B K w x->∀v,rD w0 Z B K (w.setCell (B.sb,j*4+3) (.int .i64 v)) ⟨x.A,aa x.S j 3 v⟩)/\
 Hy (∀{t}{w:World}{x},SD (rD w0 Z B K) (fR (rF j) t x) w->de w B.lb 0 cs/\(∀i,w.frozen? ⟨B.lb,i,none⟩=false)/\(∀i,w.frozen? ⟨B.sb,i,none⟩=false)/\K.n<=32/\K.b<=4096/\ii w xs/\(t≠99->(0≠t->w.cell? (B.sb,j*4)=some (.int .i64 (x.S j 0)))/\(1≠t->w.cell? (B.sb,j*4+1)=some (.int .i64 (x.S j 1)))/\(2≠t->w.cell? (B.sb,j*4+2)=some (.int .i64 (x.S j 2)))/\(3≠t->w.cell? (B.sb,j*4+3)=some (.int .i64 (x.S j 3)))))/\
 Hy (∀{x y b},y.S=x.S->rF j y b=rF j x b)/\
 Hy (∀{t b v}{x y:RX},y.S=aa x.S j t v->b≠t->rF j y b=rF j x b):=by
 have cs:∀{w x},rD w0 Z B K w x->∀t,t<4->w.cell? ⟨B.sb,j*4+t,none⟩=some (.int .i64 (x.S j t)):=λh t ht=>h.1.row.cell (z9 hj ht);refine⟨Lu E hj,rD.drew,rD.al,λh=>rP h c hj (t:=0) aO,λh=>rP h c hj aO,λh=>rP h c hj aO,λh=>rP h c hj aO,λ{t w x} ⟨y,a,e⟩=>⟨kB a.1.box E.c,a.1.box.frozen,a.1.row.frozen,a.1.Ry,a.1.b,yZ E.x a.1.xt,λht=>?_⟩,λe=>by unfold rF;rw[e],λe h=>by unfold rF;rw[e];simp[dK,h]⟩;have f:∀b,b<4->b≠t->w.cell? ⟨B.sb,j*4+b,none⟩=some (.int .i64 (x.S j b)):=λb d h=>by have:=e.resolve_left ht b h;unfold rF at this;rw[<-this];exact cs a b d
 exact⟨λh=>f 0 aO h,λh=>f 1 aO h,λh=>f 2 aO h,λh=>f 3 aO h⟩
def rZ(x:RX)(b:Nat):Int:=0
theorem Rl(E:xA B K cs xs)(h:rD w0 Z B K w x):Hy (∀{w x},rD w0 Z B K w x->de w B.lb 0 cs/\(∀i,w.frozen? ⟨B.lb,i,none⟩=false)/\(∀i,w.frozen? ⟨B.sb,i,none⟩=false)/\K.n<=32/\K.b<=4096/\ii w xs)/\Hy (∀{w x},rD w0 Z B K w x->rD w0 Z B K w.drew x)/\Hy (∀{w x},rD w0 Z B K w x->∀o,rD w0 Z B K (w.alloc o) x)/\Hy (∀{t}{w:World}{x},SD (rD w0 Z B K) (fR rZ t x) w->de w B.lb 0 cs/\(∀i,w.frozen? ⟨B.lb,i,none⟩=false)/\(∀i,w.frozen? ⟨B.sb,i,none⟩=false)/\K.n<=32/\K.b<=4096/\ii w xs)/\Hy (∀{x y b},y.S=x.S->rZ y b=rZ x b):=⟨λh=>rK E h,rD.drew,rD.al,λ⟨y,a,e⟩=>rK E a,λ_=>rfl⟩
theorem rA(h:rD w0 B.z B K w x):Hy (xF (rD w0 B.z B K) B.ab B.wb RX.A (λx A=>⟨A,x.S⟩)):=⟨λh=>h.1.ar,λh a b=>⟨h.1.re a (by have:=h.1.ne;simp;omega) (by have:=h.1.ne;simp;omega) (λe c hm=>h.1.xz e c (by simp at hm;simp;omega)) b,h.2.trans (a.mono aS)⟩⟩
end
def Pu{X:Type}(D:World->X->Prop)(N:Nat)(args:Array Value)(x:X)(r:Value):Prop:=∀w,D w x->Calls prog N args w λe w'=>e= .returned r/\w=w'
variable{X:Type}{N:Nat}{args:Array Value}{r:Value}{U:Ending->World->Prop}
theorem Ob{D:World->X->Prop}{x:X}(h:Pu D N args x r)(a:D w x)(k:D w x->U (.returned r) w):Calls prog N args w U:=(h w a).mono λe w' ⟨h1,h2⟩=>h1 ▸ h2 ▸ k a
theorem Pu.ct{D:World->X->Prop}{x:X}(h:Pu D N args x r):Ct D N args x r x:=λw a=>(h w a).mono λe w' ⟨h1,h2⟩=>⟨h1,h2 ▸ a⟩
variable{w0:World}{Z:List Nat}{B:FB}{K:FK}{x:RX}
theorem rD.fr{w':World}(h:rD w0 Z B K w x)(a:af [] w w'):rD w0 Z B K w' x:=⟨h.1.same a,h.2.trans (a.mono aS)⟩
theorem fU(a b c d:Int)(W:World):(Instr.field 138 (.agg #[a,b,c,d]) 0).run prog W= .ok (.int .i64 a) W:=by kernel_rfl
theorem rD.ext(h:rD w0 Z B K w x)(c:aq w b vs T)(ht:T∉[138,93,158]):rD w0 Z {B with xs:=(b,vs,T)::B.xs} K w x:=⟨{h.1 with xt:=λe a=>by rcases kq.1 a with rfl|a;exact⟨c,ht⟩;exact h.1.xt e a},h.2⟩
theorem unC(e:Nat×List Value×TypeId)(h:Calls prog N args w λf w'=>f= .returned r/\rD w0 Z {B with xs:=e::B.xs} K w' x):Calls prog N args w λf w'=>f= .returned r/\rD w0 Z B K w' x:=h.mono λf w' ⟨h1,h2⟩=>⟨h1,{h2.1 with xt:=λa ha=>h2.1.xt a (pI _ ha)},h2.2⟩
theorem lD(h:p:=by
 intro w HS;have C:=rK E HS;simp only[de,ii,jM,Nat.reduceAdd] at C;replace HS:=aH HS
 go_in
 go_wp2_with(first
  |((with_reducible refine KF (HS.o.al _) ?_);clear HS C;intro w HS;have C:=rK E HS.o;simp only[de,ii,jM,Nat.reduceAdd] at C)
  |((with_reducible refine Nj (HS.o.al _) ?_);clear HS C;intro w HS;have C:=rK E HS.o;simp only[de,ii,jM,Nat.reduceAdd] at C)
  |((first|with_reducible refine lP K1.o HS ?_|with_reducible refine lP K2.o HS ?_|with_reducible refine lP K8.o HS ?_);clear HS C;intro w HS;have C:=rK E HS.o;simp only[de,ii,jM,Nat.reduceAdd] at C))
 all_goals
  go_returns
  exact⟨rfl,HS.o⟩):p:=h
theorem rV(h:p:=by
 intro w HS;have C:=rK E HS;simp only[de,ii,jM,Nat.reduceAdd] at C;replace HS:=aH HS
 go_in
 go_wp2_with((first|with_reducible refine Ob K1.o HS.o ?_|with_reducible refine Ob K2.o HS.o ?_);intro _)
 all_goals
  go_returns
  exact⟨rfl,rfl⟩):p:=h
theorem rD.ra(h:rD w0 Z B K w x):qV B K w x:=h.1
theorem Oo{P:Program}{c:Func}{R:Ending->World->Prop}{act:Act}{v:Value}{a0 a1 a2 a3 a x1 x2 x3:Value}(d:aq w b [a0,a1,a2,a3] T)(f:∀W,W.cell? (b,0)=some a->W.cell? (b,1)=some x1->W.cell? (b,2)=some x2->W.cell? (b,3)=some x3->(results c act.tmps).run P W= .ok v W)(hd:act.defers=[])(e:R (.returned v) ((((w.setCell (b,0) a).setCell (b,1) x1).setCell (b,2) x2).setCell (b,3) x3)):bodyPost P c R .ret act ((((w.setCell (b,0) a).setCell (b,1) x1).setCell (b,2) x2).setCell (b,3) x3):=by
 have h:=(((d.set 0 a).set 1 x1).set 2 x2).set 3 x3;exact eO (f _ (h.cell (i:=0) rfl) (h.cell (i:=1) rfl) (h.cell (i:=2) rfl) (h.cell (i:=3) rfl)) hd e
theorem spR{vs:Array Value}(H:∀w0,Ct (rD w0 [] B K) N args x r x)(h:qV B K w x)(k:∀w',aq w' w.heap.size vs.toList T->Hy (af [] w w')->U (.returned r) w'):Calls prog N args (w.alloc (.cells vs T)) U:=
 (H (w.alloc (.cells vs T)) _ ⟨h.same ((af.refl [] _).alloc _),aF⟩).mono λe w' ⟨h1,h2⟩=>h1 ▸ k w' ((aq.new w vs T).Rr h2.2 aS) (((af.refl [] w).alloc _).trans h2.2)
theorem Rm(h:p:=by
 intro w HS;replace HS:=aH HS
 go_in
 go_wp2_with(first
  |((first|with_reducible refine Ob K1.o HS.o ?_|with_reducible refine Ob K1.o (HS.o.al _) ?_);intro hs;(try have C:=CK.o _ hs);clear hs;(try simp only[de,ii,jM,Nat.reduceAdd] at C))
  |(with_reducible refine spR K2.o HS.o.ra ?_;intro w' HB HF;have b0:=HB.cell (i:=0) rfl;have b1:=HB.cell (i:=1) rfl;have b2:=HB.cell (i:=2) rfl;have b3:=HB.cell (i:=3) rfl;have bz:=HB.frozen;replace HB:=aH HB))
 refine Oo HB.o (λW k0 k1 k2 k3=>by simp[results,hr,go_sem,k0,k1,k2,k3]) rfl ⟨rfl,HS.o.fr ?_⟩;repeat (first|exact HF.o|refine af.set ?_ _ _ (.inr (ba _)))):p:=h
theorem B3(h:p:=by
 intro w HS;replace HS:=aH HS
 go_in
 go_wp2_with(with_reducible refine Ob K1.o (HS.o.al _) ?_;intro hs;have C:=CK.o _ hs;clear hs;simp only[de,ii,jM,Nat.reduceAdd] at C)
 go_returns
 refine⟨rfl,HS.o.fr ?_⟩;repeat (first|exact aF|apply af.alloc|refine af.set ?_ _ _ (.inr (ba _)))):p:=h
theorem EG(h:p:=by
 intro w HS;obtain⟨CK,DR,DA,CZ,RA⟩:=Rl E HS;try have HA:=rA HS
 have HT:Tg 98:=⟨⟩
 have C:=CK.o HS;simp only[de,ii,jM,Nat.reduceAdd] at C;replace HS:=aH HS;exact gW):p:=h
theorem MB(h:p:=by
 intro w HS;obtain⟨CK,DR,DA,Pa,Pb,Pc,Pd,CZ,RA,RP⟩:=rI E hz hj HS;try have HA:=rA HS
 have C:=CK.o HS;simp only[de,ii,jM,Nat.reduceAdd] at C;replace HS:=aH HS;exact gW):p:=h
theorem rW(t:Nat)(h:Tg t->p:=by
 intro HT;exact MB):p:=h ⟨⟩
variable{b a:Int}
theorem AS{D:World->X->Prop}{x d:X}{c:Prop}[Decidable c](h1:c->Ct D N args x (.int .i64 a) d)(h2:¬c->Ct D N args x (.int .i64 b) d):Ct D N args x (.int .i64 (if c then a else b)) d:=by
 split
 ·exact h1 ‹_›
 ·exact h2 ‹_›
theorem Oc(h:p:=by
 rcases lT K.n i with⟨_,h1⟩|⟨_,h1,h2⟩|⟨j,rfl,_,h3,_⟩
 ·exact rV
 ·exact rV
 ·rw[h] at h3;cases h3):p:=h
theorem Od(h:p:=by
 have l1:(j:Int)<K.n:=by omega
 have l2:¬K.n<=j:=by omega
 exact rV):p:=h
variable{n:Nat}{S:Nat->Nat->Int}
theorem pS{j:Nat}(hj:j<n)(h:S j 0=a):ai n S j a=true/\bo n S j a b=aa S j 0 b:=by unfold bo ai bC;simp[h,hj]
variable{i:Int}
theorem v9(h:ai n S i a=false):bC n i=false\/∃j:Nat,i=j/\j<n/\¬S j 0=a:=by
 unfold ai at h;rcases lT n i with⟨h1,_⟩|⟨h1,_⟩|⟨j,rfl,hj,h1,_⟩
 ·exact .inl h1
 ·exact .inl h1
 ·exact .inr ⟨j,rfl,hj,by simpa[h1] using h⟩
theorem pk(h:ai n S i a=true):∃j:Nat,i=j/\j<n/\S j 0=a:=by
 unfold ai at h;rcases lT n i with⟨h1,_⟩|⟨h1,_⟩|⟨j,rfl,hj,h1,_⟩
 ·simp[h1] at h
 ·simp[h1] at h
 ·exact⟨j,rfl,hj,by simpa[h1] using h⟩
theorem ug(a b:Int):(a==b)=decide (a=b):=by by_cases h:a=b<;>simp[h]
theorem EF{D:World->RX->Prop}{args:Int->Array Value}{pc:Int}(h1:bC n i=false->Ct D N (args i) x (.bool false) x)(h2:∀j:Nat,j<n->x.S j 0=pc->Ct D N (args j) x (.bool true) ⟨x.A,aa x.S j 0 b⟩)(h3:∀j:Nat,j<n->¬x.S j 0=pc->Ct D N (args j) x (.bool false) x):
 Ct D N (args i) x (.bool (bC n i&&decide (x.S i.toNat 0=pc))) ⟨x.A,if(bC n i&&decide (x.S i.toNat 0=pc))=true then aa x.S i.toNat 0 b else x.S⟩:=by
 rcases lT n i with⟨h,_⟩|⟨h,_⟩|⟨j,rfl,hj,h,_⟩
 ·simp only[h,lC,ko,br];exact h1 h
 ·simp only[h,lC,ko,br];exact h1 h
 ·simp only[h,gS,cH];by_cases a:x.S j 0=pc
  ·simp only[a,gi,bt];exact h2 j hj a
  ·simp only[a,fI,ko,br];exact h3 j hj a
section
variable{w0:World}{Z:List Nat}{B:FB}{K:FK}{x:RX}{j:Nat}
theorem hE(e:K.k=5):xA B K [some B.ab,K.b,.slice (some ⟨B.sb,0,none⟩) K.n B.cp] B.xs:=⟨by simp[B2,e],rfl⟩
theorem Dn(e:K.k=5):Pu (rD w0 Z B K) 213 #[some B.lb] x (.int .i64 K.n):=have E:= @hE B K e;rV
theorem Ku(e:K.k=5){i:Int}(h:bC K.n i=false):Pu (rD w0 Z B K) 217 #[some B.lb,i] x (.pointer none):=by
 have E:= @hE B K e;have K1:=aH (@Dn w0 Z B K x e);exact Oc
theorem Hp(e:K.k=5)(hj:j<K.n):Pu (rD w0 Z B K) 217 #[some B.lb,j] x (.pointer (some ⟨B.sb,j*4,none⟩)):=by
 have E:= @hE B K e;have K1:=aH (@Dn w0 Z B K x e);exact Od
theorem Nv(e:K.k=5){i:Int}(h:bC K.n i=false):Ct (rD w0 Z B K) 214 #[some B.lb,i] x (.agg #[(0:Int),(0:Int),(0:Int),(0:Int)]) x:=by
 have E:= @hE B K e;have K1:=aH (@Ku w0 Z B K x e i h);have CK:=aH λw=> @rK w0 w Z B K x _ _ E;exact B3
theorem Ki(e:K.k=5)(hj:j<K.n):Ct (rD w0 Z B K) 214 #[some B.lb,j] x (.agg #[(x.S j 0:Int),(x.S j 1:Int),(x.S j 2:Int),(x.S j 3:Int)]) x:=by
 have E:= @hE B K e;have K1:=aH (@Hp w0 Z B K x j e hj);have CK:=aH λw=> @Lu w0 w Z B K x j _ _ E hj;exact B3
theorem DP(e:K.k=5)(hz:B.sb∈Z)(i pc a:Int):Ct (rD w0 Z B K) 216 #[some B.lb,i,pc,a] x (.bool (ai K.n x.S i pc)) ⟨x.A,bo K.n x.S i pc a⟩:=by
 have E:= @hE B K e;unfold bo ai;apply EF
 ·intro h;have K1:=aH (@Ku w0 Z B K x e i h).ct;exact lD
 ·intro j hj h;subst h;have K1:=aH (@Hp w0 Z B K x j e hj).ct;exact rW 0
 ·intro j hj h;have K1:=aH (@Hp w0 Z B K x j e hj).ct;exact rW 0
theorem Kv(e:K.k=5)(c:B.sb∈Z)(hj:j<K.n){pc:Int}(h:x.S j 0=pc)(a:Int):Ct (rD w0 Z B K) 216 #[some B.lb,j,pc,a] x (.bool true) ⟨x.A,aa x.S j 0 a⟩:=by
 have:= @DP w0 Z B K x e c j pc a
 rwa [(pS (b:=a) hj h).1,(pS (b:=a) hj h).2] at this
theorem Qa(e:K.k=5)(a:B.sb∈Z)(i:Int):Ct (rD w0 Z B K) 211 #[some B.lb,i] x (.bool (ai K.n x.S i 0)) ⟨x.A,bo K.n x.S i 0 1⟩:=by
 have E:= @hE B K e;have K1:=aH (@DP w0 Z B K x e a i 0 1);exact lD
theorem Kh(e:K.k=5)(a:B.sb∈Z)(i:Int):Ct (rD w0 Z B K) 212 #[some B.lb,i] x (.bool (ai K.n x.S i 10)) ⟨x.A,bo K.n x.S i 10 11⟩:=by
 have E:= @hE B K e;have K1:=aH (@DP w0 Z B K x e a i 10 11);exact lD
theorem Nt{b:Nat}{l:List (Nat×List Value×TypeId)}(e:K.k=5)(X:B.xs=(b,[Value.pointer (some ⟨B.lb,0,none⟩)],110)::l)(y:Int):Ct (rD w0 Z B K) 218 #[y,some b] x (.int .i64 (ji K.b y)) x:=have E:=xA.mk (@hE B K e).c X;lD
variable{p:Prop}
theorem hV(h:p:=by
 intro w HS;obtain⟨bx,hb⟩:∃bx,Hy (bx=w.heap.size):=⟨_,rfl⟩
 refine unC (bx,[Value.pointer (some ⟨B.lb,0,none⟩)],110) ?_;have hmf:= @aY prog;have NB:= @Mz
 go_in
 go_wp2_with fail;have HB:=(HS.al (.cells #[some B.lb] 110)).ext (aq.new w #[some B.lb] 110) aJ;rw[<-hb.o] at HB⊢;clear hb;generalize w.alloc (.cells #[some B.lb] 110)=W at*;clear HS;first|have K1:=aH (@Hp w0 B.z {B with xs:=(bx,[Value.pointer (some ⟨B.lb,0,none⟩)],110)::B.xs} K x j e hj).ct|have K1:=aH (@Ku w0 B.z {B with xs:=(bx,[Value.pointer (some ⟨B.lb,0,none⟩)],110)::B.xs} K x e i hn).ct
 have K2:=aH λx=> @Nt w0 B.z {B with xs:=(bx,[Value.pointer (some ⟨B.lb,0,none⟩)],110)::B.xs} K x bx B.xs e rfl;try have K6:=aH λx a b h=> @Kv w0 B.z {B with xs:=(bx,[Value.pointer (some ⟨B.lb,0,none⟩)],110)::B.xs} K x j e hz hj a h b
 have HA:=rA (B:={B with xs:=(bx,[Value.pointer (some ⟨B.lb,0,none⟩)],110)::B.xs}) HB;have EX:=xA.mk (@hE {B with xs:=(bx,[Value.pointer (some ⟨B.lb,0,none⟩)],110)::B.xs} K e).c rfl;first|obtain⟨CK,DR,DA,Pa,Pb,Pc,Pd,CZ,RA,RP⟩:=rI EX hz hj HB|obtain⟨CK,DR,DA,CZ,RA⟩:=Rl EX HB
 clear EX;have HS:=aH HB;have C:=CK.o HB;clear HB;simp only[de,ii,jM,Nat.reduceAdd] at C;exact gX):p:=h
theorem hW(t:Nat)(h:Tg t->p:=by
 intro HT;exact hV):p:=h ⟨⟩
theorem h_1(e:K.k=5)(hj:j<K.n)(h:x.S j 0=1):Ct (rD w0 B.z B K) 215 #[some B.lb,j] x (.bool false) ⟨x.A.store (ji K.b (x.S j 1)) 1,aa x.S j 0 2⟩:=by
 have hz:= @zS B;exact hW 0
theorem h_2(e:K.k=5)(hj:j<K.n)(h:x.S j 0=2):Ct (rD w0 B.z B K) 215 #[some B.lb,j] x (.bool false) ⟨x.A.swap (ji K.b 0) (x.S j 1),aa (aa x.S j 2 (x.A.get (ji K.b 0))) j 0 3⟩:=by
 have hz:= @zS B;exact hW 2
theorem h_3(e:K.k=5)(hj:j<K.n)(h:x.S j 0=3):Ct (rD w0 B.z B K) 215 #[some B.lb,j] x (.bool (decide (x.A.get (ji K.b (x.S j 2))=0))) ⟨x.A.load (ji K.b (x.S j 2)),if x.A.get (ji K.b (x.S j 2))=0 then aa x.S j 0 10 else x.S⟩:=by
 have hz:= @zS B;by_cases g:x.A.get (ji K.b (x.S j 2))=0
 ·rw[ef g,ad g];have GT:=h;have HZ:Tg 0:=⟨⟩
  exact hV
 ·rw[dh g,ac g];exact hW 0
theorem Qb(e:K.k=5)(hj:j<K.n)(h:x.S j 0=11):Ct (rD w0 B.z B K) 215 #[some B.lb,j] x (.bool true) ⟨x.A.store (ji K.b (x.S j 1)) 0,aa (aa x.S j 1 (x.S j 2)) j 0 0⟩:=by
 have hz:= @zS B;have GT:aa x.S j 1 (x.S j 2) j 0=11:=by simp[dK,h]
 exact hW 1
theorem Dl(e:K.k=5)(i:Int)(hi:∀j:Nat,i=j->j<K.n->¬x.S j 0=1/\¬x.S j 0=2/\¬x.S j 0=3/\¬x.S j 0=11):Ct (rD w0 B.z B K) 215 #[some B.lb,i] x (.bool false) x:=by
 have hz:= @zS B;rcases lT K.n i with⟨hn,h1⟩|⟨hn,h1,h2⟩|⟨j,rfl,hj,h,_⟩
 ·exact hW 9
 ·exact hW 9
 ·obtain⟨h1,h2,h3,h4⟩:=hi j rfl hj;exact hW 9
theorem Kj(e:K.k=5)(i:Int):Ct (rD w0 B.z B K) 215 #[some B.lb,i] x (.bool (rB K.n K.b x.S x.A i)) ⟨jH K.n K.b x.S x.A i,iX K.n K.b x.S x.A i⟩:=λw g=>by
 have f:ji K.b 0=K.b:=by have:=g.1.b;unfold ji wrap64;omega
 revert w;unfold rB iX jH;rcases lT K.n i with⟨h,h1⟩|⟨h,h1,h2⟩|⟨j,rfl,hj,h,_⟩<;>simp only[h,gS,lC,ko,bt,br,cH]
 ·exact Dl e i λj q=>by omega
 ·exact Dl e i λj q=>by omega
 by_cases a:x.S j 0=1
 ·simp only[a,Int.reduceEq,bt,br,fI];exact h_1 e hj a
 by_cases b:x.S j 0=2
 ·simp only[b,Int.reduceEq,bt,br,fI];have:= @h_2 w0 B K x j e hj b;rwa [f] at this
 by_cases c:x.S j 0=3
 ·simp only[c,Int.reduceEq,bt,br];exact h_3 e hj c
 by_cases d:x.S j 0=11
 ·simp only[d,Int.reduceEq,bt,br,gi];exact Qb e hj d
 ·simp only[a,b,c,d,br,fI];exact Dl e j λk q _=>by have q:=An q;subst q;exact⟨a,b,c,d⟩
theorem G6(e:K.k=5)(i:Int):Ct (rD w0 B.z B K) 210 #[some B.lb,i] x (.bool (G5 K.n K.b x.S x.A i)) ⟨G4 K.n K.b x.S x.A i,x.S⟩:=by
 have c:=fU;have hz:= @zS B;have E:= @hE B K e;unfold G5 G4;cases h:ai K.n x.S i 10 with
 |false=>
  rcases v9 h with h|⟨j,rfl,hj,a⟩
  ·have K1:=aH (@Nv w0 B.z B K x e i h);exact EG
  ·have K1:=aH (@Ki w0 B.z B K x j e hj);exact rW 9
 |true=>
  obtain⟨j,rfl,hj,a⟩:=pk h;have K1:= @Ki w0 B.z B K x j e hj;rw[a] at K1;replace K1:=aH K1;rw[cH,gS,ad rfl];by_cases g:x.A.get K.b=x.S j 1
  ·rw[ef g];exact rW 9
  ·rw[dh g];exact rW 9
end
section
variable{w0:World}{Z:List Nat}{B:FB}{K:FK}{x:RX}{j:Nat}
theorem kE(e:K.k=2):xA B K [.slice (some ⟨B.sb,0,none⟩) K.n B.cp,some B.ab,K.b] B.xs:=⟨by simp[B2,e],rfl⟩
theorem DX(e:K.k=2):Pu (rD w0 Z B K) 181 #[some B.lb] x (.int .i64 K.n):=have E:= @kE B K e;rV
theorem Hv(e:K.k=2){i:Int}(h:bC K.n i=false):Pu (rD w0 Z B K) 178 #[some B.lb,i] x (.pointer none):=by
 have E:= @kE B K e;have K1:=aH (@DX w0 Z B K x e);exact Oc
theorem ym(e:K.k=2)(hj:j<K.n):Pu (rD w0 Z B K) 178 #[some B.lb,j] x (.pointer (some ⟨B.sb,j*4,none⟩)):=by
 have E:= @kE B K e;have K1:=aH (@DX w0 Z B K x e);exact Od
variable{i:Int}
theorem Qj(e:K.k=2)(h:bC K.n i=false):Ct (rD w0 Z B K) 177 #[some B.lb,i] x (.agg #[(0:Int),(0:Int),(0:Int),(0:Int)]) x:=by
 have E:= @kE B K e;have K1:=aH (@Hv w0 Z B K x e i h);have CK:=aH λw=> @rK w0 w Z B K x _ _ E;exact B3
theorem Qk(e:K.k=2)(hj:j<K.n):Ct (rD w0 Z B K) 177 #[some B.lb,j] x (.agg #[(x.S j 0:Int),(x.S j 1:Int),(x.S j 2:Int),(x.S j 3:Int)]) x:=by
 have E:= @kE B K e;have K1:=aH (@ym w0 Z B K x j e hj);have CK:=aH λw=> @Lu w0 w Z B K x j _ _ E hj;exact B3
theorem A8:Pu (rD w0 Z B K) 175 #[some B.lb] x (.pointer (some ⟨B.lb,0,none⟩)):=λw a=>by
 go_in
 go_wp2
 go_returns
 exact⟨rfl,rfl⟩
theorem NR(e:K.k=2)(hz:B.sb∈Z){i pc:Int}(h:ai K.n x.S i pc=false):Ct (rD w0 Z B K) 180 #[some B.lb,i,pc] x (.pointer none) x:=by
 have E:= @kE B K e;rcases v9 h with h|⟨j,rfl,hj,a⟩
 ·have K1:=aH (@Hv w0 Z B K x e i h).ct;exact lD
 ·have K1:=aH (@ym w0 Z B K x j e hj).ct;exact rW 9
theorem NS(e:K.k=2)(hz:B.sb∈Z)(hj:j<K.n){pc:Int}(h:x.S j 0=pc):Ct (rD w0 Z B K) 180 #[some B.lb,j,pc] x (.pointer (some ⟨B.sb,j*4,none⟩)) x:=by
 subst h;have E:= @kE B K e;have K1:=aH (@ym w0 Z B K x j e hj).ct;exact rW 9
theorem DY(e:K.k=2)(hz:B.sb∈Z)(i pc c:Int):Ct (rD w0 Z B K) 176 #[some B.lb,i,pc,c] x (.bool (ai K.n x.S i pc)) ⟨x.A,bo K.n x.S i pc c⟩:=by
 have E:= @kE B K e;unfold bo;cases h:ai K.n x.S i pc with
 |false=>have K1:=aH (@NR w0 Z B K x e hz i pc h);exact lD
 |true=>
  obtain⟨j,rfl,hj,a⟩:=pk h;have K1:=aH (@NS w0 Z B K x j e hz hj pc a);clear h a;rw[cH,ad rfl];exact rW 0
theorem KA(e:K.k=2)(c:B.sb∈Z)(hj:j<K.n){pc:Int}(h:x.S j 0=pc)(a:Int):Ct (rD w0 Z B K) 176 #[some B.lb,j,pc,a] x (.bool true) ⟨x.A,aa x.S j 0 a⟩:=by
 have:= @DY w0 Z B K x e c j pc a
 rwa [(pS (b:=a) hj h).1,(pS (b:=a) hj h).2] at this
theorem Qi(e:K.k=2)(a:B.sb∈Z)(i:Int):Ct (rD w0 Z B K) 170 #[some B.lb,i] x (.bool (ai K.n x.S i 0)) ⟨x.A,bo K.n x.S i 0 1⟩:=by
 have E:= @kE B K e;have K1:=aH (@A8 w0 Z B K x).ct;have K2:=aH (@DY w0 Z B K x e a i 0 1);exact lD
theorem Ky(e:K.k=2)(a:B.sb∈Z)(i:Int):Ct (rD w0 Z B K) 171 #[some B.lb,i] x (.bool (ai K.n x.S i 10)) ⟨x.A,bo K.n x.S i 10 11⟩:=by
 have E:= @kE B K e;have K1:=aH (@A8 w0 Z B K x).ct;have K2:=aH (@DY w0 Z B K x e a i 10 11);exact lD
theorem NP{a b c d:Int}(H:∀w0,Ct (rD w0 [] B K) 177 #[some B.lb,i] x (.agg #[a,b,c,d]) x):Ct (rD w0 Z B K) 173 #[some B.lb,i] x (.agg #[a,b,c,d]) x:=by
 have K1:=aH (@A8 w0 Z B K x);have K2:=aH H;have hr:=results173;clear H;exact Rm
theorem kW{p:Prop}(t:Nat)(h:Tg t->p:=by
 intro HT;have hz:= @zS B;have E:= @kE B K e;have K1:=aH (@A8 w0 B.z B K x).ct;have K6:=aH λx a b h=> @KA w0 B.z B K x j e hz hj a h b;exact MB):p:=h ⟨⟩
theorem Ht(e:K.k=2)(i:Int):Ct (rD w0 B.z B K) 169 #[some B.lb,i] x (.bool (yk K.n K.b x.S x.A i)) ⟨yj K.n K.b x.S x.A i,x.S⟩:=by
 have E:= @kE B K e;have K1:=aH (@A8 w0 B.z B K x).ct;unfold yk yj;cases h:ai K.n x.S i 10 with
 |false=>have K2:=aH (@NR w0 B.z B K x e zS i 10 h);exact EG
 |true=>
  obtain⟨j,rfl,hj,c⟩:=pk h;have K2:=aH (@NS w0 B.z B K x j e zS hj 10 c);rw[cH,gS,<-ug,ad rfl];exact kW 9
theorem DW(e:K.k=2)(i:Int)(hi:∀j:Nat,i=j->j<K.n->¬x.S j 0=1/\¬x.S j 0=2/\¬x.S j 0=11):Ct (rD w0 B.z B K) 174 #[some B.lb,i] x (.bool false) x:=by
 have E:= @kE B K e;have K1:=aH (@A8 w0 B.z B K x).ct;rcases lT K.n i with⟨h,_⟩|⟨h,_⟩|⟨j,rfl,hj,h,_⟩
 ·have K2:=aH (@Hv w0 B.z B K x e i h).ct;exact EG
 ·have K2:=aH (@Hv w0 B.z B K x e i h).ct;exact EG
 ·obtain⟨h1,h2,h3⟩:=hi j rfl hj;have K2:=aH (@ym w0 B.z B K x j e hj).ct;exact kW 9
theorem k_1(e:K.k=2)(hj:j<K.n)(h:x.S j 0=1):Ct (rD w0 B.z B K) 174 #[some B.lb,j] x (.bool false) ⟨x.A.add K.b 1,aa (aa x.S j 1 (wrap64 (x.A.RH K.b 1 - 1))) j 0 2⟩:=by
 have K2:=aH (@ym w0 B.z B K x j e hj).ct;have GT:aa x.S j 1 (wrap64 (x.A.RH K.b 1 - 1)) j 0=1:=by simp[dK,h]
 exact kW 1
theorem k_2(e:K.k=2)(hj:j<K.n)(h:x.S j 0=2):Ct (rD w0 B.z B K) 174 #[some B.lb,j] x (.bool (decide (x.A.get (K.b+1)=x.S j 1))) ⟨x.A.load (K.b+1),if x.A.get (K.b+1)=x.S j 1 then aa x.S j 0 10 else x.S⟩:=λw c=>by
 have d:wrap64 ((K.b:Int)+1)=K.b+1:=by have:=c.1.b;unfold wrap64;omega
 revert w;have K2:=aH (@ym w0 B.z B K x j e hj).ct;have GT:=h;have HZ:Tg 0:=⟨⟩
 by_cases g:x.A.get (K.b+1)=x.S j 1
 ·rw[ef g,ad g];exact kW 0
 ·rw[dh g,ac g];exact kW 0
theorem Ql(e:K.k=2)(hj:j<K.n)(h:x.S j 0=11):Ct (rD w0 B.z B K) 174 #[some B.lb,j] x (.bool true) ⟨x.A.store (K.b+1) (wrap64 (x.S j 1+1)),aa x.S j 0 0⟩:=λw c=>by
 have d:wrap64 ((K.b:Int)+1)=K.b+1:=by have:=c.1.b;unfold wrap64;omega
 revert w;have K2:=aH (@ym w0 B.z B K x j e hj).ct;have GT:=h;exact kW 0
theorem Kz(e:K.k=2)(i:Int):Ct (rD w0 B.z B K) 174 #[some B.lb,i] x (.bool (rT K.n K.b x.S x.A i)) ⟨io K.n K.b x.S x.A i,ip K.n K.b x.S x.A i⟩:=by
 unfold rT ip io;rcases lT K.n i with⟨h,h1⟩|⟨h,h1,h2⟩|⟨j,rfl,hj,h,_⟩<;>simp only[h,gS,lC,ko,bt,br,cH]
 ·exact DW e i λj q=>by omega
 ·exact DW e i λj q=>by omega
 by_cases a:x.S j 0=1
 ·simp only[a,Int.reduceEq,bt,br,fI];exact k_1 e hj a
 by_cases b:x.S j 0=2
 ·simp only[b,Int.reduceEq,bt,br];exact k_2 e hj b
 by_cases c:x.S j 0=11
 ·simp only[c,Int.reduceEq,bt,br,gi];exact Ql e hj c
 ·simp only[a,b,c,br,fI];exact DW e j λk q _=>by have q:=An q;subst q;exact⟨a,b,c⟩
end
section
variable{w0:World}{Z:List Nat}{B:FB}{K:FK}{x:RX}{j:Nat}
theorem lE(e:K.k=1):xA B K [some B.ab,K.b,K.p,.slice (some ⟨B.sb,0,none⟩) K.n B.cp] B.xs:=⟨by simp[B2,e],rfl⟩
theorem D0(e:K.k=1):Pu (rD w0 Z B K) 161 #[some B.lb] x (.int .i64 K.n):=have E:= @lE B K e;rV
theorem D5(e:K.k=1){i:Int}(h:bC K.n i=false):Pu (rD w0 Z B K) 164 #[some B.lb,i] x (.pointer none):=by
 have E:= @lE B K e;have K1:=aH (@D0 w0 Z B K x e);exact Oc
theorem yn(e:K.k=1)(hj:j<K.n):Pu (rD w0 Z B K) 164 #[some B.lb,j] x (.pointer (some ⟨B.sb,j*4,none⟩)):=by
 have E:= @lE B K e;have K1:=aH (@D0 w0 Z B K x e);exact Od
theorem KD(e:K.k=1){i:Int}(h:bC K.n i=false):Ct (rD w0 Z B K) 162 #[some B.lb,i] x (.agg #[(0:Int),(0:Int),(0:Int),(0:Int)]) x:=by
 have E:= @lE B K e;have K1:=aH (@D5 w0 Z B K x e i h);have CK:=aH λw=> @rK w0 w Z B K x _ _ E;exact B3
theorem NU(e:K.k=1)(hj:j<K.n):Ct (rD w0 Z B K) 162 #[some B.lb,j] x (.agg #[(x.S j 0:Int),(x.S j 1:Int),(x.S j 2:Int),(x.S j 3:Int)]) x:=by
 have E:= @lE B K e;have K1:=aH (@yn w0 Z B K x j e hj);have CK:=aH λw=> @Lu w0 w Z B K x j _ _ E hj;exact B3
theorem Qq(e:K.k=1)(hz:B.sb∈Z)(i:Int):Ct (rD w0 Z B K) 159 #[some B.lb,i] x (.bool (ai K.n x.S i 0)) ⟨x.A,wX K.n x.S i⟩:=by
 have E:= @lE B K e;unfold wX nB;cases h:ai K.n x.S i 0 with
 |false=>
  have a:(bC K.n i&&decide (x.S i.toNat 0=0))=false:=h;rw[a,ac aS];rcases v9 h with h|⟨j,rfl,hj,c⟩
  ·have K1:=aH (@D5 w0 Z B K x e i h).ct;exact lD
  ·have K1:=aH (@yn w0 Z B K x j e hj).ct;exact rW 9
 |true=>
  have a:(bC K.n i&&decide (x.S i.toNat 0=0))=true:=h;rw[a,ad rfl];obtain⟨j,rfl,hj,c⟩:=pk h;have K1:=aH (@yn w0 Z B K x j e hj).ct;clear h a;rw[cH];exact rW 99
theorem KC(e:K.k=1)(hz:B.sb∈Z)(i:Int):Ct (rD w0 Z B K) 160 #[some B.lb,i] x (.bool (ai K.n x.S i 10)) ⟨x.A,bo K.n x.S i 10 11⟩:=by
 have E:= @lE B K e;unfold bo;cases h:ai K.n x.S i 10 with
 |false=>
  rcases v9 h with h|⟨j,rfl,hj,a⟩
  ·have K1:=aH (@D5 w0 Z B K x e i h).ct;exact lD
  ·have K1:=aH (@yn w0 Z B K x j e hj).ct;exact rW 9
 |true=>
  obtain⟨j,rfl,hj,a⟩:=pk h;have K1:=aH (@yn w0 Z B K x j e hj).ct;clear h;rw[cH,ad rfl];exact rW 0
variable{p:Prop}
theorem lW(h:p:=by
 have hz:= @zS B;have E:= @lE B K e;have K1:=aH (@yn w0 B.z B K x j e hj).ct;exact MB):p:=h
theorem Qr(e:K.k=1)(hj:j<K.n)(h:x.S j 0=11):Ct (rD w0 B.z B K) 163 #[some B.lb,j] x (.bool true) ⟨x.A.store K.b 0,aa x.S j 0 0⟩:=have HT:Tg 0:=⟨⟩;lW
theorem l_2(e:K.k=1)(hj:j<K.n)(h:x.S j 0=2):Ct (rD w0 B.z B K) 163 #[some B.lb,j] x (.bool false) ⟨x.A,if wrap64 (x.S j 2 - 1)=0 then aa (aa x.S j 2 (wrap64 (x.S j 2 - 1))) j 0 1 else aa x.S j 2 (wrap64 (x.S j 2 - 1))⟩:=by
 by_cases g:wrap64 (x.S j 2 - 1)=0
 ·rw[ad g,g];exact lW
 ·rw[ac g];exact lW
theorem lX(h:p:=by
 have hz:= @zS B;have E:= @lE B K e;intro w HS;have K1:=aH (@yn w0 B.z B K x j e hj).ct;have HA:=rA HS;obtain⟨CK,DR,DA,Pa,Pb,Pc,Pd,CZ,RA,RP⟩:=rI E hz hj HS;have C:=CK.o HS;simp only[de,ii,jM,Nat.reduceAdd] at C;have NB:= @Mz;replace HS:=aH HS
 go_in
 go_wp2_with(first
  |(with_reducible refine JE ?_)
  |(with_reducible refine JF ?_)
  |((with_reducible refine Rk HS ?_ ?_);(first|with_reducible exact P8|exact .inr λb hb=>RA.o rfl))
  |(go_at_call 165;refine lP (HA.o.Sd _ _ _ _) HS ?_;clear HS C;intro w HS;have C:=CK.o HS.o;(try simp[de,ii] at C))
  |((with_reducible refine lP K1.o HS ?_);clear HS C;intro w HS;have C:=CK.o HS.o;(try simp[de,ii] at C))
  |((with_reducible refine NN ?_);refine Ra HS DR.o (λ_=>CZ.o) rfl rfl ?_;clear HS C;intro w HS hne hz;(try simp[de,ii] at hz);have C:=CK.o HS.o;(try simp[de,ii] at C)))
 have HP:=aH λv=>Pb.o (Pc.o (Pa.o HS.o 2) (x.S j 1)) v;obtain⟨⟨-, -,c2, -⟩, -,fz, -, -, -, -,k0,k1,k2, -⟩:=C;clear CK DR DA Pa Pb Pc Pd CZ RA RP HA K1 HS hne hz E NB h hj;go_region_with fail;all_goals
  go_wp2;all_goals
   go_returns
   (try simp only[BR])
   first
    |exact⟨rfl,HP.o _⟩
    |exact⟨rfl,(HP.o _).drew⟩):p:=h
end
section
variable{w0:World}{Z:List Nat}{B:FB}{K:FK}{x:RX}{j:Nat}
theorem Qt(e:K.k=1)(hj:j<K.n)(h:x.S j 0=1)(g:x.A.RE K.b 0=false)(hm:¬wrap64 (2*x.S j 1)<=K.p):Ct (rD w0 B.z B K) 163 #[some B.lb,j] x (.bool false) ⟨x.A.Sd K.b 0 ((j:Int)+1),aa (aa (aa x.S j 0 2) j 2 (x.S j 1)) j 1 K.p⟩:=by
 have a:¬IntKind.i64.wrap (2*x.S j 1)<=K.p:=by rw[BR];exact hm
 have c:(K.p:Int)<IntKind.i64.wrap (2*x.S j 1):=by rw[BR];omega
 exact lX
end
section
variable{w0:World}{Z:List Nat}{B:FB}{K:FK}{x:RX}{j:Nat}
theorem pE(e:K.k=3):xA B K [some B.ab,K.b,K.p,.slice (some ⟨B.sb,0,none⟩) K.n B.cp] B.xs:=⟨by simp[B2,e],rfl⟩
theorem Ez(e:K.k=3):Pu (rD w0 Z B K) 187 #[some B.lb] x (.int .i64 K.n):=have E:= @pE B K e;rV
theorem Lr(e:K.k=3){i:Int}(h:bC K.n i=false):Pu (rD w0 Z B K) 191 #[some B.lb,i] x (.pointer none):=by
 have E:= @pE B K e;have K1:=aH (@Ez w0 Z B K x e);exact Oc
theorem EB(e:K.k=3)(hj:j<K.n):Pu (rD w0 Z B K) 191 #[some B.lb,j] x (.pointer (some ⟨B.sb,j*4,none⟩)):=by
 have E:= @pE B K e;have K1:=aH (@Ez w0 Z B K x e);exact Od
theorem Lm(e:K.k=3){i:Int}(h:bC K.n i=false):Ct (rD w0 Z B K) 188 #[some B.lb,i] x (.agg #[(0:Int),(0:Int),(0:Int),(0:Int)]) x:=by
 have E:= @pE B K e;have K1:=aH (@Lr w0 Z B K x e i h);have CK:=aH λw=> @rK w0 w Z B K x _ _ E;exact B3
theorem Ln(e:K.k=3)(hj:j<K.n):Ct (rD w0 Z B K) 188 #[some B.lb,j] x (.agg #[(x.S j 0:Int),(x.S j 1:Int),(x.S j 2:Int),(x.S j 3:Int)]) x:=by
 have E:= @pE B K e;have K1:=aH (@EB w0 Z B K x j e hj);have CK:=aH λw=> @Lu w0 w Z B K x j _ _ E hj;exact B3
theorem EC(e:K.k=3)(hz:B.sb∈Z)(i pc a:Int):Ct (rD w0 Z B K) 190 #[some B.lb,i,pc,a] x (.bool (ai K.n x.S i pc)) ⟨x.A,bo K.n x.S i pc a⟩:=by
 have E:= @pE B K e;unfold bo ai;apply EF
 ·intro h;have K1:=aH (@Lr w0 Z B K x e i h).ct;exact lD
 ·intro j hj h;subst h;have K1:=aH (@EB w0 Z B K x j e hj).ct;exact rW 0
 ·intro j hj h;have K1:=aH (@EB w0 Z B K x j e hj).ct;exact rW 0
theorem Ls(e:K.k=3)(c:B.sb∈Z)(hj:j<K.n){pc:Int}(h:x.S j 0=pc)(a:Int):Ct (rD w0 Z B K) 190 #[some B.lb,j,pc,a] x (.bool true) ⟨x.A,aa x.S j 0 a⟩:=by
 have:= @EC w0 Z B K x e c j pc a
 rwa [(pS (b:=a) hj h).1,(pS (b:=a) hj h).2] at this
theorem QE(e:K.k=3)(a:B.sb∈Z)(i:Int):Ct (rD w0 Z B K) 185 #[some B.lb,i] x (.bool (ai K.n x.S i 0)) ⟨x.A,bo K.n x.S i 0 1⟩:=by
 have E:= @pE B K e;have K1:=aH (@EC w0 Z B K x e a i 0 1);exact lD
theorem Ll(e:K.k=3)(a:B.sb∈Z)(i:Int):Ct (rD w0 Z B K) 186 #[some B.lb,i] x (.bool (ai K.n x.S i 10)) ⟨x.A,bo K.n x.S i 10 11⟩:=by
 have E:= @pE B K e;have K1:=aH (@EC w0 Z B K x e a i 10 11);exact lD
theorem uJ(e:K.k=3)(t:Int):Ct (rD w0 Z B K) 64 #[some B.lb,t] x (.int .i64 (dH K.b K.p t)) x:=λw a=>by
 have c:=a.1.p (.inr e);have C:=rK (@pE B K e) a;simp only[de,ii,jM,Nat.reduceAdd] at C;have d1:((K.p:Int)==0)=false:=by simpa using(show¬K.p=0 by omega)
 have d2:(K.p==0)=false:=by simpa using(show¬K.p=0 by omega)
 have d3:¬K.p=0:=by omega
 have b:wrap64 ((K.b:Int)+1)=K.b+1:=ce aO;replace a:=aH a;unfold dH;rw[b]
 go_in
 go_wp2
 go_quiet (fail)
 go_wp2;all_goals
  go_returns
  exact⟨by first|rfl|(simp[BR]),a.o.fr aD⟩
theorem Lq(e:K.k=3)(a:Int):Ct (rD w0 B.z B K) 193 #[some B.lb,a] x (.bool (x.A.get (dH K.b K.p a)==wrap64 (a+1))) ⟨x.A.load (dH K.b K.p a),x.S⟩:=by
 have E:= @pE B K e;have K1:=aH λx=> @uJ w0 B.z B K x e;exact EG
theorem Lp(e:K.k=3)(a:Int):Ct (rD w0 B.z B K) 231 #[some B.lb,a] x (.bool (x.A.get K.b==wrap64 (a+1))) ⟨x.A.load K.b,x.S⟩:=by
 have E:= @pE B K e;exact EG
theorem Jw{N:Nat}{pc:Int}{r:Bool}{a:RX}(e:K.k=3)(hj:j<K.n)(c:x.S j 0=pc)(d:N=193\/N=231)(H:Ct (rD w0 B.z B K) N #[some B.lb,(x.S j 1:Int)] x (.bool r) a):Ct (rD w0 B.z B K) 192 #[some B.lb,j,pc,.func (.func N) #[] #[]] x (.bool r) a:=by
 subst c;have hz:= @zS B;have E:= @pE B K e;have K1:=aH (@EB w0 B.z B K x j e hj).ct;have K8:=aH H;clear H;rcases d with rfl|rfl<;>exact rW 9
theorem Oa{N:Nat}{i pc:Int}(e:K.k=3)(h:ai K.n x.S i pc=false)(a:N=193\/N=231):Ct (rD w0 B.z B K) 192 #[some B.lb,i,pc,.func (.func N) #[] #[]] x (.bool false) x:=by
 have hz:= @zS B;have E:= @pE B K e;rcases v9 h with h|⟨j,rfl,hj,c⟩
 ·have K1:=aH (@Lr w0 B.z B K x e i h).ct;rcases a with rfl|rfl<;>exact EG
 ·have K1:=aH (@EB w0 B.z B K x j e hj).ct;rcases a with rfl|rfl<;>exact rW 9
theorem Iw(e:K.k=3)(i:Int):Ct (rD w0 B.z B K) 184 #[some B.lb,i] x (.bool (yk K.n K.b x.S x.A i)) ⟨yj K.n K.b x.S x.A i,x.S⟩:=by
 have E:= @pE B K e;unfold yk yj;cases h:ai K.n x.S i 10 with
 |false=>have K1:=aH (@Oa w0 B K x _ i 10 e h (.inr rfl));exact EG
 |true=>
  obtain⟨j,rfl,hj,a⟩:=pk h;have K1:=aH (Jw e hj a (.inr rfl) (@Lp w0 B K x e (x.S j 1)));rw[cH,gS,<-ug,ad rfl];exact EG
theorem pW{p:Prop}(t:Nat)(h:Tg t->p:=by
 intro HT;have hz:= @zS B;have fd:=fU;have E:= @pE B K e;have K1:= @Ln w0 B.z B K x j e hj;rw[h] at K1;replace K1:=aH K1;have K2:=aH λx=> @uJ w0 B.z B K x e;have K6:=aH λx a b h=> @Ls w0 B.z B K x j e hz hj a h b;exact MB):p:=h ⟨⟩
theorem Ey(e:K.k=3)(i:Int)(hi:∀j:Nat,i=j->j<K.n->¬x.S j 0=1/\¬x.S j 0=2/\¬x.S j 0=11):Ct (rD w0 B.z B K) 189 #[some B.lb,i] x (.bool false) x:=by
 have b:=fU;have E:= @pE B K e;have a:= @Mz;rcases lT K.n i with⟨h,_⟩|⟨h,_⟩|⟨j,rfl,hj,h,_⟩
 ·have K1:=aH (@Lm w0 B.z B K x e i h);exact lD
 ·have K1:=aH (@Lm w0 B.z B K x e i h);exact lD
 ·obtain⟨h1,h2,h3⟩:=hi j rfl hj;have K1:=aH (@Ln w0 B.z B K x j e hj);exact lD
theorem p_1(e:K.k=3)(hj:j<K.n)(h:x.S j 0=1):Ct (rD w0 B.z B K) 189 #[some B.lb,j] x (.bool false) ⟨x.A.add K.b 1,aa (aa x.S j 1 (wrap64 (x.A.RH K.b 1 - 1))) j 0 2⟩:=by
 have GT:aa x.S j 1 (wrap64 (x.A.RH K.b 1 - 1)) j 0=1:=by simp[dK,h]
 exact pW 1
theorem p_2(e:K.k=3)(hj:j<K.n)(h:x.S j 0=2):Ct (rD w0 B.z B K) 189 #[some B.lb,j] x (.bool (decide (x.A.get (dH K.b K.p (x.S j 1))=wrap64 (x.S j 1+1)))) ⟨x.A.load (dH K.b K.p (x.S j 1)),if x.A.get (dH K.b K.p (x.S j 1))=wrap64 (x.S j 1+1) then aa x.S j 0 10 else x.S⟩:=by
 have K8:=Jw e hj h (.inl rfl) (@Lq w0 B K x e (x.S j 1));have GT:=h;by_cases g:x.A.get (dH K.b K.p (x.S j 1))=wrap64 (x.S j 1+1)
 ·rw[ef g,ad g];rw[show(x.A.get (dH K.b K.p (x.S j 1))==wrap64 (x.S j 1+1))=true by simpa using g] at K8;replace K8:=aH K8;have HZ:Tg 0:=⟨⟩
  exact pW 0
 ·rw[dh g,ac g];rw[show(x.A.get (dH K.b K.p (x.S j 1))==wrap64 (x.S j 1+1))=false by simpa using g] at K8;replace K8:=aH K8;have HZ:Tg 0:=⟨⟩
  exact pW 0
theorem QF(e:K.k=3)(hj:j<K.n)(h:x.S j 0=11):Ct (rD w0 B.z B K) 189 #[some B.lb,j] x (.bool true) ⟨x.A.store (dH K.b K.p (wrap64 (x.S j 1+1))) (wrap64 (x.S j 1+2)),aa x.S j 0 0⟩:=by
 have GT:=h;exact pW 0
theorem Lo(e:K.k=3)(i:Int):Ct (rD w0 B.z B K) 189 #[some B.lb,i] x (.bool (r5 K.n K.b K.p x.S x.A i)) ⟨gB K.n K.b K.p x.S x.A i,ft K.n K.b K.p x.S x.A i⟩:=by
 unfold r5 ft gB;rcases lT K.n i with⟨h,h1⟩|⟨h,h1,h2⟩|⟨j,rfl,hj,h,_⟩<;>simp only[h,gS,lC,ko,bt,br,cH]
 ·exact Ey e i λj q=>by omega
 ·exact Ey e i λj q=>by omega
 by_cases a:x.S j 0=1
 ·simp only[a,Int.reduceEq,bt,br,fI];exact p_1 e hj a
 by_cases b:x.S j 0=2
 ·simp only[b,Int.reduceEq,bt,br];exact p_2 e hj b
 by_cases c:x.S j 0=11
 ·simp only[c,Int.reduceEq,bt,br,gi];exact QF e hj c
 ·simp only[a,b,c,br,fI];exact Ey e j λk q _=>by have q:=An q;subst q;exact⟨a,b,c⟩
end
structure BK where
 step:Int
 x:Int
 n:Int
 Su:Int
structure kA(w:World)(bb ab first things:Nat)(B:BK):Prop where
 box:aq w bb [some ab,first,things,B.step,B.x,B.n,B.Su] 254
 t1:1<=things
 t32:things<=32
 fb:first<=4096
 st:0<=B.step/\B.step<=8
theorem kA.Rr{w w':World}{bb ab first things:Nat}{B:BK}(h:kA w bb ab first things B){Z:List Nat}(a:af Z w w')(h1:bb∉Z):kA w' bb ab first things B:={h with box:=h.box.Rr a h1}
def jP(first:Nat)(x:Int):Int:=wrap64 ((first:Int)+1+x)
def cU(first:Nat)(A:AR)(B:BK):Bool:=decide (B.step=4)||decide (B.step=8)||(decide (B.step=5)&&decide (A.get first=0))||(decide (B.step=7)&&decide (¬B.n=0))
def b7(first:Nat)(A:AR)(B:BK):BK:=
 if B.step=1 then⟨2,B.x,B.n,B.Su⟩ else if B.step=2 then⟨3,B.x,A.get (first+1),B.Su⟩ else if B.step=3 then⟨4,B.x,B.n,B.Su⟩ else if B.step=4 then⟨0,B.x,B.n,B.Su⟩
 else if B.step=5 then(if A.get first=0 then⟨0,0,B.n,0⟩ else⟨6,A.get first,B.n,B.Su⟩) else if B.step=6 then⟨7,B.x,A.get (jP first B.x),B.Su⟩
 else if B.step=7 then(if B.n=0 then⟨8,B.x,B.n,B.Su⟩ else⟨0,B.x,B.n,B.x⟩) else if B.step=8 then⟨0,B.x,B.n,B.x⟩ else B
def ca(first:Nat)(A:AR)(B:BK):AR:=
 if B.step=1 then A.store (jP first B.x) 0 else if B.step=2 then A.load (first+1) else if B.step=3 then(if B.n=0 then A.store first B.x else A.store (jP first B.n) B.x) else if B.step=4 then A.store (first+1) B.x
 else if B.step=5 then A.load first else if B.step=6 then A.load (jP first B.x) else if B.step=7 then A.store first B.n else if B.step=8 then A.store (first+1) 0 else A
def mY(things:Nat)(B:BK)(x:Int):Bool:=decide (B.step=0/\1<=x/\x<=(things:Int))
def lf(things:Nat)(B:BK)(x:Int):BK:=if mY things B x then⟨1,x,B.n,B.Su⟩ else B
def jr(B:BK):Bool:=decide (B.step=0)
def iT(B:BK):BK:=if jr B then⟨5,1,B.n,B.Su⟩ else B
structure BX where
 A:AR
 S:Nat->Nat->Int
def N6(B:BK):Nat->Nat->Int:=λ_ t=>if t=3 then B.step else if t=4 then B.x else if t=5 then B.n else B.Su
def gc(S:Nat->Nat->Int):BK:=⟨S 0 3,S 0 4,S 0 5,S 0 6⟩
theorem Ro(B:BK):gc (N6 B)=B:=rfl
structure JL(bb ab wb first things:Nat)(w:World)(x:BX):Prop where
 box:aq w bb [some ab,first,things,(x.S 0 3:Int),(x.S 0 4:Int),(x.S 0 5:Int),(x.S 0 6:Int)] 254
 ar:ax w ab wb x.A
 fb:first<=4096
 t32:things<=32
def bD(w0:World)(Z:List Nat)(bb ab wb first things:Nat)(w:World)(x:BX):Prop:=JL bb ab wb first things w x/\af Z w0 w
def JR(x:BX)(b:Nat):Int:=x.S 0 b
section
variable{w0 w w':World}{Z:List Nat}{bb ab wb first things:Nat}{x:BX}
theorem JL.ne(h:JL bb ab wb first things w x):bb≠ab/\bb≠wb:=⟨h.box.apart h.ar.box aJ,h.box.apart h.ar.row aJ⟩
theorem JL.same(h:JL bb ab wb first things w x)(a:af [] w w'):JL bb ab wb first things w' x:={h with box:=h.box.Rr a aS,ar:=h.ar.Rr a aS aS}
theorem bD.put(h:bD w0 Z bb ab wb first things w x)(c:bb∈Z)(t:Nat)(ht:3<=t/\t<=6)(v:Int):bD w0 Z bb ab wb first things (w.setCell (bb,t) (.int .i64 v)) ⟨x.A,aa x.S 0 t v⟩:=by
 have a:=h.1.box.set t (.int .i64 v);have hn:=h.1.ne;have b:af [bb] w (w.setCell (bb,t) (.int .i64 v)):=aU;refine⟨{h.1 with box:=?_,ar:=h.1.ar.Rr b aQ aQ},h.2.set _ _ (.inl c)⟩;rcases(by omega:t=3\/t=4\/t=5\/t=6) with rfl|rfl|rfl|rfl<;>simpa[dK] using a
theorem bK(h:bD w0 Z bb ab wb first things w x):w.cell? (bb,0)=some (.pointer (some ⟨ab,0,none⟩))/\w.cell? (bb,1)=some (.int .i64 first)/\w.cell? (bb,2)=some (.int .i64 things)/\(∀i,w.frozen? ⟨bb,i,none⟩=false)/\first<=4096/\things<=32:=⟨h.1.box.cell (i:=0) rfl,h.1.box.cell (i:=1) rfl,h.1.box.cell (i:=2) rfl,h.1.box.frozen,h.1.fb,h.1.t32⟩
theorem bI(c:bb∈Z)(h:bD w0 Z bb ab wb first things w x):Hy (∀{w x},bD w0 Z bb ab wb first things w x->(w.cell? (bb,0)=some (.pointer (some ⟨ab,0,none⟩))/\w.cell? (bb,1)=some (.int .i64 first)/\w.cell? (bb,2)=some (.int .i64 things)/\(∀i,w.frozen? ⟨bb,i,none⟩=false)/\first<=4096/\things<=32)/\w.cell? (bb,3)=some (.int .i64 (x.S 0 3))/\w.cell? (bb,4)=some (.int .i64 (x.S 0 4))/\w.cell? (bb,5)=some (.int .i64 (x.S 0 5))/\w.cell? (bb,6)=some (.int .i64 (x.S 0 6)))/\Hy (∀{w x},bD w0 Z bb ab wb first things w x->bD w0 Z bb ab wb first things w.drew x)/\Hy (∀{w x},bD w0 Z bb ab wb first things w x->∀o,bD w0 Z bb ab wb first things (w.alloc o) x)/\
 Hy (∀{w x},bD w0 Z bb ab wb first things w x->∀v,bD w0 Z bb ab wb first things (w.setCell (bb,3) (.int .i64 v)) ⟨x.A,aa x.S 0 3 v⟩)/\Hy (∀{w x},bD w0 Z bb ab wb first things w x->∀v,bD w0 Z bb ab wb first things (w.setCell (bb,4) (.int .i64 v)) ⟨x.A,aa x.S 0 4 v⟩)/\Hy (∀{w x},bD w0 Z bb ab wb first things w x->∀v,bD w0 Z bb ab wb first things (w.setCell (bb,5) (.int .i64 v)) ⟨x.A,aa x.S 0 5 v⟩)/\Hy (∀{w x},bD w0 Z bb ab wb first things w x->∀v,bD w0 Z bb ab wb first things (w.setCell (bb,6) (.int .i64 v)) ⟨x.A,aa x.S 0 6 v⟩)/\
 Hy (∀{t}{w:World}{x},SD (bD w0 Z bb ab wb first things) (fR JR t x) w->(w.cell? (bb,0)=some (.pointer (some ⟨ab,0,none⟩))/\w.cell? (bb,1)=some (.int .i64 first)/\w.cell? (bb,2)=some (.int .i64 things)/\(∀i,w.frozen? ⟨bb,i,none⟩=false)/\first<=4096/\things<=32)/\(t≠99->(3≠t->w.cell? (bb,3)=some (.int .i64 (x.S 0 3)))/\(4≠t->w.cell? (bb,4)=some (.int .i64 (x.S 0 4)))/\(5≠t->w.cell? (bb,5)=some (.int .i64 (x.S 0 5)))/\(6≠t->w.cell? (bb,6)=some (.int .i64 (x.S 0 6)))))/\
 Hy (∀{x y b},y.S=x.S->JR y b=JR x b)/\Hy (∀{t b v}{x y:BX},y.S=aa x.S 0 t v->b≠t->JR y b=JR x b):=by
 refine⟨λh=>⟨bK h,h.1.box.cell (i:=3) rfl,h.1.box.cell (i:=4) rfl,h.1.box.cell (i:=5) rfl,h.1.box.cell (i:=6) rfl⟩,λh=>⟨h.1.same (af.refl [] _).Rs,h.2.Rs⟩,λh o=>⟨h.1.same ((af.refl [] _).alloc _),h.2.alloc _⟩,λh=>h.put c 3 aO,λh=>h.put c 4 aO,λh=>h.put c 5 aO,λh=>h.put c 6 aO,λ{t w x} ⟨y,a,e⟩=>⟨bK a,λht=>?_⟩,λe=>by unfold JR;rw[e],λe h=>by unfold JR;rw[e];simp[dK,h]⟩;have f:∀b,b≠t->y.S 0 b=x.S 0 b:=λb h=>e.resolve_left ht b h;exact⟨λh=>by rw[<-f 3 h];exact a.1.box.cell (i:=3) rfl,λh=>by rw[<-f 4 h];exact a.1.box.cell (i:=4) rfl,λh=>by rw[<-f 5 h];exact a.1.box.cell (i:=5) rfl,λh=>by rw[<-f 6 h];exact a.1.box.cell (i:=6) rfl⟩
theorem bA(h:bD w0 [bb,ab,wb] bb ab wb first things w x):Hy (xF (bD w0 [bb,ab,wb] bb ab wb first things) ab wb BX.A (λx A=>⟨A,x.S⟩)):=⟨λh=>h.1.ar,λh a b=>⟨{h.1 with box:=h.1.box.Rr a (by have:=h.1.ne;simp;omega),ar:=b},h.2.trans (a.mono aS)⟩⟩
theorem bW{p:Prop}(t:Nat)(h:Tg t->p:=by
 intro HT w HS;obtain⟨CK,DR,DA,Pa,Pb,Pc,Pd,CZ,RA,RP⟩:=bI aS HS;try have HA:=bA HS
 have C:=CK.o HS;replace HS:=aH HS;exact gW):p:=h ⟨⟩
section
variable{Z:List Nat}
theorem NW(y:Int):Ct (bD w0 (bb::Z) bb ab wb first things) 324 #[some bb,y] x (.int .i64 (jP first y)) x:=bW 9
theorem Cx:Ct (bD w0 (bb::Z) bb ab wb first things) 320 #[some bb] x (.bool (x.S 0 3 !=0)) x:=bW 9
theorem N8:Ct (bD w0 (bb::Z) bb ab wb first things) 325 #[some bb] x (.bool true) ⟨x.A,aa x.S 0 3 0⟩:=bW 3
theorem bX{p:Prop}(t:Nat)(h:Tg t->p:=by
 intro HT;have e1:wrap64 ((first:Int)+1)=first+1:=ce aO;have K1:=aH λx=> @NW w0 bb ab wb first things x [ab,wb];have K2:=aH λx=> @N8 w0 bb ab wb first things x [ab,wb];intro w HS;obtain⟨CK,DR,DA,Pa,Pb,Pc,Pd,CZ,RA,RP⟩:=bI aS HS;have HA:=bA HS;have C:=CK.o HS;replace HS:=aH HS;exact gW):p:=h ⟨⟩
theorem bp1(a:first<=4096)(h:x.S 0 3=1):Ct (bD w0 [bb,ab,wb] bb ab wb first things) 321 #[some bb] x (.bool false) ⟨x.A.store (jP first (x.S 0 4)) 0,(aa x.S 0 3 2)⟩:=bX 9
theorem bp2(a:first<=4096)(h:x.S 0 3=2):Ct (bD w0 [bb,ab,wb] bb ab wb first things) 321 #[some bb] x (.bool false) ⟨x.A.load (first+1),(aa (aa x.S 0 5 (x.A.get (first+1))) 0 3 3)⟩:=bX 5
theorem Pt(a:first<=4096)(h:x.S 0 3=3)(g:x.S 0 5=0):Ct (bD w0 [bb,ab,wb] bb ab wb first things) 321 #[some bb] x (.bool false) ⟨x.A.store first (x.S 0 4),(aa x.S 0 3 4)⟩:=bX 9
theorem Pv(a:first<=4096)(h:x.S 0 3=3)(g:¬x.S 0 5=0):Ct (bD w0 [bb,ab,wb] bb ab wb first things) 321 #[some bb] x (.bool false) ⟨x.A.store (jP first (x.S 0 5)) (x.S 0 4),(aa x.S 0 3 4)⟩:=bX 9
theorem bp4(a:first<=4096)(h:x.S 0 3=4):Ct (bD w0 [bb,ab,wb] bb ab wb first things) 321 #[some bb] x (.bool true) ⟨x.A.store (first+1) (x.S 0 4),(aa x.S 0 3 0)⟩:=bX 9
theorem Pw(a:first<=4096)(h:x.S 0 3=5)(g:x.A.get first=0):Ct (bD w0 [bb,ab,wb] bb ab wb first things) 322 #[some bb] x (.bool true) ⟨x.A.load first,(aa (aa (aa x.S 0 4 0) 0 6 0) 0 3 0)⟩:=bX 4
theorem Px(a:first<=4096)(h:x.S 0 3=5)(g:¬x.A.get first=0):Ct (bD w0 [bb,ab,wb] bb ab wb first things) 322 #[some bb] x (.bool false) ⟨x.A.load first,(aa (aa x.S 0 4 (x.A.get first)) 0 3 6)⟩:=bX 4
theorem bt6(a:first<=4096)(h:x.S 0 3=6):Ct (bD w0 [bb,ab,wb] bb ab wb first things) 322 #[some bb] x (.bool false) ⟨x.A.load (jP first (x.S 0 4)),(aa (aa x.S 0 5 (x.A.get (jP first (x.S 0 4)))) 0 3 7)⟩:=bX 5
theorem Py(a:first<=4096)(h:x.S 0 3=7)(g:¬x.S 0 5=0):Ct (bD w0 [bb,ab,wb] bb ab wb first things) 322 #[some bb] x (.bool true) ⟨x.A.store first (x.S 0 5),(aa (aa x.S 0 6 (x.S 0 4)) 0 3 0)⟩:=bX 6
theorem Pz(a:first<=4096)(h:x.S 0 3=7)(g:x.S 0 5=0):Ct (bD w0 [bb,ab,wb] bb ab wb first things) 322 #[some bb] x (.bool false) ⟨x.A.store first 0,(aa x.S 0 3 8)⟩:=bX 6
theorem bt8(a:first<=4096)(h:x.S 0 3=8):Ct (bD w0 [bb,ab,wb] bb ab wb first things) 322 #[some bb] x (.bool true) ⟨x.A.store (first+1) 0,(aa (aa x.S 0 6 (x.S 0 4)) 0 3 0)⟩:=bX 6
end
section
variable{Z:List Nat}{y z:Int}
variable{p:Prop}
theorem bY(t:Nat)(h:Tg t->p:=by
 intro HT;have K1:=aH λx=> @Cx w0 bb ab wb first things x Z;intro w HS;obtain⟨CK,DR,DA,Pa,Pb,Pc,Pd,CZ,RA,RP⟩:=bI aS HS;have C:=CK.o HS;replace HS:=aH HS;exact gW):p:=h ⟨⟩
theorem Rb(h:¬(x.S 0 3=0/\1<=z/\z<=things)):Ct (bD w0 (bb::Z) bb ab wb first things) 319 #[some bb,y,z] x (.bool false) x:=by
 by_cases a:x.S 0 3=0
 ·by_cases h1:z<1
  ·clear h;exact bY 9
  ·have h2:(things:Int)<z:=by omega
   clear h;exact bY 9
 ·clear h;exact bY 9
theorem Rc(a:x.S 0 3=0)(h1:1<=z)(h2:z<=things):Ct (bD w0 (bb::Z) bb ab wb first things) 319 #[some bb,y,z] x (.bool true) ⟨x.A,aa (aa x.S 0 3 y) 0 4 z⟩:=by
 have h3:¬z<1:=by omega
 have h4:¬(things:Int)<z:=by omega
 exact bY 99
theorem gotC:Ct (bD w0 (bb::Z) bb ab wb first things) 323 #[some bb] x (.int .i64 (x.S 0 6)) x:=bW 9
theorem bV(h:p:=by
 intro w HS;obtain⟨CK,DR,DA,Pa,Pb,Pc,Pd,CZ,RA,RP⟩:=bI aS HS;have C:=CK.o HS;replace HS:=aH HS;exact gW):p:=h
theorem QG(z:Int):∃S,gc S=lf things (gc x.S) z/\Ct (bD w0 (bb::Z) bb ab wb first things) 318 #[some bb,z] x (.bool (mY things (gc x.S) z)) ⟨x.A,S⟩:=by
 unfold lf mY;by_cases h:x.S 0 3=0/\1<=z/\z<=things
 ·rw[ef (show(gc x.S).step=0/\1<=z/\z<=things from h)];have K1:=aH (@Rc w0 bb ab wb first things x Z 1 z h.1 h.2.1 h.2.2);exact⟨aa (aa x.S 0 3 1) 0 4 z,by simp[gc,dK],bV⟩
 ·rw[dh (show¬((gc x.S).step=0/\1<=z/\z<=things) from h)];have K1:=aH (@Rb w0 bb ab wb first things x Z 1 z h);exact⟨x.S,by simp,bV⟩
theorem OR(ht:1<=things):∃S,gc S=iT (gc x.S)/\Ct (bD w0 (bb::Z) bb ab wb first things) 315 #[some bb] x (.bool (jr (gc x.S))) ⟨x.A,S⟩:=by
 unfold iT jr;by_cases h:x.S 0 3=0
 ·rw[ef (show(gc x.S).step=0 from h)];have K1:=aH (@Rc w0 bb ab wb first things x Z 5 1 h aO aO);exact⟨aa (aa x.S 0 3 5) 0 4 1,by simp[gc,dK],bV⟩
 ·rw[dh (show¬(gc x.S).step=0 from h)];have K1:=aH (@Rb w0 bb ab wb first things x Z 5 1 (λe=>h e.1));exact⟨x.S,by simp,bV⟩
end
theorem bS{N:Nat}{r:Bool}{a:BX}(c:N=321/\(x.S 0 3=1\/x.S 0 3=2\/x.S 0 3=3\/x.S 0 3=4)\/N=322/\(x.S 0 3=5\/x.S 0 3=6\/x.S 0 3=7\/x.S 0 3=8))(H:Ct (bD w0 [bb,ab,wb] bb ab wb first things) N #[some bb] x (.bool r) a):Ct (bD w0 [bb,ab,wb] bb ab wb first things) 316 #[some bb] x (.bool r) a:=by
 have K1:=aH (@Cx w0 bb ab wb first things x [ab,wb]);have K2:=aH H;clear H;rcases c with⟨rfl,h|h|h|h⟩|⟨rfl,h|h|h|h⟩<;>rw[h] at K1<;>exact bV
theorem JQ(e:first<=4096)(hs:0<=x.S 0 3/\x.S 0 3<=8):∃S,gc S=b7 first x.A (gc x.S)/\Ct (bD w0 [bb,ab,wb] bb ab wb first things) 316 #[some bb] x (.bool (cU first x.A (gc x.S))) ⟨ca first x.A (gc x.S),S⟩:=by
 have bz:∀{S r A},gc S=b7 first x.A (gc x.S)->r=cU first x.A (gc x.S)->A=ca first x.A (gc x.S)->Ct (bD w0 [bb,ab,wb] bb ab wb first things) 316 #[some bb] x (.bool r) ⟨A,S⟩->∃S,gc S=b7 first x.A (gc x.S)/\Ct (bD w0 [bb,ab,wb] bb ab wb first things) 316 #[some bb] x (.bool (cU first x.A (gc x.S))) ⟨ca first x.A (gc x.S),S⟩:=λa b c d=>⟨_,a,b ▸ c ▸ d⟩
 rcases(by omega:x.S 0 3=0\/x.S 0 3=1\/x.S 0 3=2\/x.S 0 3=3\/x.S 0 3=4\/x.S 0 3=5\/x.S 0 3=6\/x.S 0 3=7\/x.S 0 3=8) with h|h|h|h|h|h|h|h|h
 ·have K1:= @Cx w0 bb ab wb first things x [ab,wb];rw[h] at K1;replace K1:=aH K1;exact bz (S:=x.S) (r:=false) (A:=x.A) (by simp[gc,b7,h]) (by simp[gc,cU,h]) (by simp[gc,ca,h]) bV
 ·exact bz (by simp[gc,b7,h,dK]) (by simp[gc,cU,h]) (by simp[gc,ca,h]) (bS (.inl ⟨rfl,by omega⟩) (bp1 e h))
 ·exact bz (by simp[gc,b7,h,dK]) (by simp[gc,cU,h]) (by simp[gc,ca,h]) (bS (.inl ⟨rfl,by omega⟩) (bp2 e h))
 ·by_cases g:x.S 0 5=0
  ·exact bz (by simp[gc,b7,h,dK]) (by simp[gc,cU,h]) (by simp[gc,ca,h,g]) (bS (.inl ⟨rfl,by omega⟩) (Pt e h g))
  ·exact bz (by simp[gc,b7,h,dK]) (by simp[gc,cU,h]) (by simp[gc,ca,h,g]) (bS (.inl ⟨rfl,by omega⟩) (Pv e h g))
 ·exact bz (by simp[gc,b7,h,dK]) (by simp[gc,cU,h]) (by simp[gc,ca,h]) (bS (.inl ⟨rfl,by omega⟩) (bp4 e h))
 ·by_cases g:x.A.get first=0
  ·exact bz (by simp[gc,b7,h,g,dK]) (by simp[gc,cU,h,g]) (by simp[gc,ca,h]) (bS (.inr ⟨rfl,by omega⟩) (Pw e h g))
  ·exact bz (by simp[gc,b7,h,g,dK]) (by simp[gc,cU,h,g]) (by simp[gc,ca,h]) (bS (.inr ⟨rfl,by omega⟩) (Px e h g))
 ·exact bz (by simp[gc,b7,h,dK]) (by simp[gc,cU,h]) (by simp[gc,ca,h]) (bS (.inr ⟨rfl,by omega⟩) (bt6 e h))
 ·by_cases g:x.S 0 5=0
  ·exact bz (by simp[gc,b7,h,g,dK]) (by simp[gc,cU,h,g]) (by simp[gc,ca,h,g]) (bS (.inr ⟨rfl,by omega⟩) (Pz e h g))
  ·exact bz (by simp[gc,b7,h,g,dK]) (by simp[gc,cU,h,g]) (by simp[gc,ca,h,g]) (bS (.inr ⟨rfl,by omega⟩) (Py e h g))
 ·exact bz (by simp[gc,b7,h,dK]) (by simp[gc,cU,h]) (by simp[gc,ca,h]) (bS (.inr ⟨rfl,by omega⟩) (bt8 e h))
end
section
variable{w:World}{bb ab wb first things:Nat}{A:AR}{B:BK}
theorem kA.bx(h:kA w bb ab first things B)(a:ax w ab wb A)(Z:List Nat):bD w Z bb ab wb first things w ⟨A,N6 B⟩:=⟨⟨h.box,a,h.fb,h.t32⟩,aF⟩
theorem kA.of{w':World}{a:BK}{S:Nat->Nat->Int}(h:kA w bb ab first things B)(e:gc S=a)(h2:JL bb ab wb first things w' ⟨A,S⟩)(hs:0<=a.step/\a.step<=8):kA w' bb ab first things a:=by
 subst e;exact{box:=h2.box,t1:=h.t1,t32:=h.t32,fb:=h.fb,st:=hs}
theorem AA(h:kA w bb ab first things B)(a:ax w ab wb A):Calls prog 316 #[some bb] w λe w'=>e= .returned (.bool (cU first A B))/\kA w' bb ab first things (b7 first A B)/\ax w' ab wb (ca first A B)/\af [bb,ab,wb] w w':=by
 obtain⟨S,b,K⟩:=JQ (w0:=w) (bb:=bb) (ab:=ab) (wb:=wb) (things:=things) (x:=⟨A,N6 B⟩) h.fb h.st;exact(K w (h.bx a _)).mono λe w' ⟨h1,h2,h3⟩=>⟨h1,h.of b h2 (by have:=h.st;unfold b7;(repeat' split)<;>first|omega|(simp;done)|(simp;omega)),h2.ar,h3⟩
theorem Cr(h:kA w bb ab first things B)(a:ax w ab wb A)(x:Int):Calls prog 318 #[some bb,x] w λe w'=>e= .returned (.bool (mY things B x))/\kA w' bb ab first things (lf things B x)/\af [bb] w w':=by
 obtain⟨S,b,K⟩:=QG (w0:=w) (bb:=bb) (ab:=ab) (wb:=wb) (first:=first) (things:=things) (x:=⟨A,N6 B⟩) (Z:=[]) x;exact(K w (h.bx a _)).mono λe w' ⟨h1,h2,h3⟩=>⟨h1,h.of b h2 (by have:=h.st;show 0<=(lf things B x).step/\_;unfold lf;split<;>first|omega|(simp;done)|(simp;omega)),h3⟩
theorem AB(h:kA w bb ab first things B)(a:ax w ab wb A):Calls prog 315 #[some bb] w λe w'=>e= .returned (.bool (jr B))/\kA w' bb ab first things (iT B)/\af [bb] w w':=by
 obtain⟨S,b,K⟩:=OR (w0:=w) (bb:=bb) (ab:=ab) (wb:=wb) (first:=first) (things:=things) (x:=⟨A,N6 B⟩) (Z:=[]) h.t1;exact(K w (h.bx a _)).mono λe w' ⟨h1,h2,h3⟩=>⟨h1,h.of b h2 (by have:=h.st;show 0<=(iT B).step/\_;unfold iT;split<;>first|omega|(simp;done)|(simp;omega)),h3⟩
theorem Gi(h:kA w bb ab first things B):Calls prog 323 #[some bb] w λe w'=>e= .returned B.Su/\w=w':=by
 have a:=h.box.cell (i:=6) rfl;clear h;go_enter func323,ntmps323;go_wp2;go_ret;exact⟨rfl,rfl⟩
theorem Gq(a:ax w ab wb A)(n:Nat)(g:1<=n)(hn:n<=32)(ht:A.RU (2+n)=0):
 Calls prog 97 #[some ab,n] w λe w'=>∃bb,e= .returned (.tuple #[some bb,(0:Int)])/\w.heap.size<=bb/\
  kA w' bb ab (A.taken+1) n ⟨0,0,0,0⟩/\ax w' ab wb (A.take (2+n))/\af [ab,wb] w w':=by
 have d1:decide ((n:Int)<1)=false:=by simp;omega
 have d2:decide ((32:Int)<n)=false:=by simp;omega
 have f:=fL a (2+n);have c:A.takeN (2+n)=(A.taken:Int)+1:=by unfold AR.takeN;rw[ad ht]
 rw[ht,c] at f;have m:=aH f;have o:=a.box.lt;have r:=a.row.lt;have h:=a.room;have q:=a.le;have j:A.taken+1<=4096:=by
  unfold AR.RU at ht;rw[ac aO] at ht;by_cases p:(A.ws.length:Int) - (A.taken:Int)<2+n
  ·rw[ad p] at ht;omega
  ·omega
 clear a f c ht;go_enter func97,ntmps97;go_wp2_with fail;refine gF m.o ?_;rintro w1 ⟨b,d⟩;have i:=d.size;have l:=aH d;have k:=aH b;clear b d;go_wp2;go_ret2;have g2:=aq.new w1 #[some ab,((A.taken:Int)+1:Int),n,(0:Int),(0:Int),(0:Int),(0:Int)] 254;refine⟨w1.heap.size,rfl,i,?_,?_,l.o.alloc _⟩
 ·exact{box:=by simpa using g2,t1:=g,t32:=hn,fb:=j,st:=by simp}
 ·exact k.o.Rr (S:=[]) (aF.alloc _) aS aS
theorem MI(p:Option Addr)(s:Int)(hs:32<s)(w:World):Calls prog 97 #[.pointer p,s] w λe w'=>e= .returned (.tuple #[.pointer none,(1:Int)])/\w=w':=by
 have d1:decide (s<1)=false:=by simp;omega
 have d2:decide (32<s)=true:=by simpa using hs
 clear hs;go_enter func97,ntmps97;go_wp2;go_ret2;exact⟨rfl,rfl⟩
end
end Go.Proofs.YteijjhahgabalaaGreat
