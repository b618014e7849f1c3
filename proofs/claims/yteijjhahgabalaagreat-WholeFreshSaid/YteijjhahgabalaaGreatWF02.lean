/- A region that draws its order, walked by a schedule: what only computes or reads cells that nobody writes is taken first, in rows; the calls come one at a time. An operation whose guard is false is passed over. -/
import Derived.Deep.Quiet
import Derived.Deep.QuietTactic
import Derived.BigQuiet
import Derived.OrdersHeld
import Derived.Deep.RegionHeld3
import Derived.Test.YteijjhahgabalaaGreatWF01
set_option maxRecDepth 100000
set_option maxHeartbeats 8000000
set_option linter.all false
namespace Go.Proofs.YteijjhahgabalaaGreat
structure HW(S:World->Prop) where
 w:World
 h:S w
abbrev uh(S:World->Prop):World->Prop:=λw=>∃z:HW S,w=z.w
variable{S:World->Prop}{w:World}
theorem Gz(h:S w):uh S w:=⟨⟨w,h⟩,rfl⟩
def yV:Op->Bool
 | .move _| .assign _| .pick .. | .build .. | .load .. | .binOp .. | .unOp .. | .convert .. | .slice .. | .fieldAddr .. | .field .. | .indexAddr .. | .index .. | .extract .. | .makeFunc .. | .nilCheck _=>true
 | .call {callee:=.builtin .len, ..}| .call {callee:=.builtin .cap, ..}| .call {callee:=.builtin .min, ..}| .call {callee:=.builtin .max, ..}=>true
 |_=>false
def nH(P:Program)(w:World)(s:Sem Next):Prop:=∀n w',s.run P w= .ok n w'->∃v,n= .value v
section
variable{P:Program}{w w':World}
variable{v:Value}
theorem i5:nH P w (Pure.pure (Next.value v)):=λn w' h=>by
 simp only[Sem.run_pure,Result.ok.injEq] at h;exact⟨v,h.1.symm⟩
variable{α:Type}
theorem rY{s:Sem α}{g:α->Value}:nH P w (s >>=λx=>Pure.pure (Next.value (g x))):=λn w' h=>by
 simp only[Sem.run_bind] at h;cases hs:s.run P w with
 |ok x w1=>rw[hs] at h;simp only[Result.andThen_ok,Sem.run_pure,Result.ok.injEq] at h;exact⟨_,h.1.symm⟩
 |halt x w1=>rw[hs] at h;cases h
theorem pn{s:Sem α}{g:α->Sem Next}(h:∀a w',nH P w' (g a)):nH P w (s >>=g):=λn w' e=>by
 simp only[Sem.run_bind] at e;cases hs:s.run P w with
 |ok x w1=>rw[hs] at e;exact h x w1 n w' e
 |halt x w1=>rw[hs] at e;cases e
theorem kM{x:Sem Next}(h:∀n w',x.run P w≠ .ok n w'):nH P w x:=λn w' e=>am e (h n w')
variable{o:Oper}
theorem BA{ev:Operand->Value}(h:yV o.op=true):nH P w (execOp ev o):=by
 unfold execOp;cases a:o.op
 case call c=>
  obtain⟨callee,args,d⟩:=c;rw[a] at h;cases callee with
  |builtin b=>cases b<;>first|(simp only[yV,ko] at h;done)|(show nH P w (_ >>=λx=>Pure.pure (Next.value _));exact rY)
  |_=>simp only[yV,ko] at h
 case nilCheck x=>
  show nH P w (match ev x with
   | .pointer none| .nilIface| .nilFunc=>_
   | .func (.method name) first captured=>_
   |x=>_)
  split
  ·exact kM λn w'=>by simp[runtimePanic]
  ·exact kM λn w'=>by simp[runtimePanic]
  ·exact kM λn w'=>by simp[runtimePanic]
  ·split
   ·exact kM λn w'=>by simp[runtimePanic]
   ·refine pn λp w1=>pn λb w2=>?_;dsimp only
    split
    ·exact pn λ_ _=>i5
    ·exact i5
   ·exact i5
  ·exact i5
 all_goals
  simp only[a,yV,ko] at h;try first|exact i5|exact rY
theorem Fj{a:Act}{C:World->Prop}(h:yV o.op=true)(b:o.quietAt P a C w v):(execOp a.eval o).run P w= .ok (.value v) w:=by
 have h1:=BA (P:=P) (w:=w) (ev:=a.eval) h;unfold Oper.quietAt at b;unfold nH at h1;generalize(execOp a.eval o).run P w=r at*;cases r with
 |ok n w'=>
  obtain⟨u,rfl⟩:=h1 n w' rfl;simp only[Oper.quietUpon] at b;rw[b.1,b.2]
 |halt x w'=>simp only[Oper.quietUpon] at b
end
def pick:List Oper->Nat->Option Oper
 | [],_=>none
 |o::_,0=>some o
 |_::l,n+1=>pick l n
theorem zR:∀{l:List Oper}{i:Nat}{o:Oper},pick l i=some o->l[i]? =some o
 | [],_,_,h=>by cases h
 |_::_,0,_,h=>by simpa[pick] using h
 |_::_,n+1,_,h=>by simpa using zR (i:=n) h
variable{ops:Array Oper}
theorem r9{i:Nat}{o:Oper}(h:pick ops.toList i=some o):ops[i]? =some o:=by rw[<-FF];exact zR h
inductive nI(ops:Array Oper):List Nat->List Oper->Prop
 |nil:nI ops [] []
 |cons {i:Nat} {is:List Nat} {o:Oper} {l:List Oper}:pick ops.toList i=some o->nI ops is l->nI ops (i::is) (o::l)
def sW:List Nat->Array Bool->Array Bool
 | [],listed=>listed
 |i::is,listed=>sW is (listed.setIfInBounds i true)
def wR(md:Region.Mode)(ops:Array Oper):List Nat->Array Bool->Bool
 | [],_=>true
 |i::is,listed=>(Region.ready md ops listed).contains i&&Region.free md ops listed i&&(match ops[i]? with|some o=>yV o.op|none=>false)&&wR md ops is (listed.setIfInBounds i true)
section
variable{P:Program}{ops:Array Oper}{Q:Exit->Act->World->Prop}{md:Region.Mode}{S:World->Prop}
variable{is:List Nat}{l:List Oper}{fuel:Nat}
theorem Dt(q:nI ops is l)(hs:Region.noSelect ops=true)(hQ:∀d v c a w,Q (.panic c) (Act.put a (some d) v) w->Q (.panic c) a w):
 ∀{b:Array Bool}{a:Act}{w:World},wR md ops is b=true->S w->wpQuiet P ops (uh S) (λp=>wpAnyH P md ops Q S fuel (sW is b) p w) l a->wpAnyH P md ops Q S (fuel+is.length) b a w:=by
 induction q with
 |nil=>intro b a w _ _ h;exact h
 | @cons i is o l hi _ n=>
  intro b a w f j h;have hi:=r9 hi;have g:∀v c a w,Q (.panic c) (Act.put a o.dst v) w->Q (.panic c) a w:=λv c a w h=>by
   cases hd:o.dst with
   |none=>rw[hd] at h;exact h
   |some d=>rw[hd] at h;exact hQ d v c a w h
  simp only[wR,hi,xn] at f;obtain⟨⟨⟨m,k⟩,ht⟩,f⟩:=f;rw[xp,<-Nat.add_assoc];unfold wpQuiet at h;by_cases e:Region.wanted o (yielded ops a.tmps)=true
  ·rw[ad e] at h;obtain⟨v,h1,h2⟩:=h;exact wpAnyH_take hi hs k m (λc a w=>g _ c a w) (.inl ⟨e,λw e=>Fj ht (h1 w (Gz e))⟩) j (n f j h2)
  ·rw[ac e] at h;exact wpAnyH_take hi hs k m (λc a w=>g _ c a w) (.inr ⟨by simpa using e,rfl⟩) j (n f j h)
def eL(Q:Exit->Act->World->Prop)(K:Act->World->Prop):Exit->Act->World->Prop:=λe a w=>(e= .normal->K a w)/\(e≠ .normal->Q e a w)
variable{a:Act}{w:World}
theorem ah{K:Act->World->Prop}(h:K a w):eL Q K .normal a w:=⟨λ_=>h,λh=>am rfl h⟩
variable{b:Array Bool}
theorem tF{i:Nat}{o:Oper}(hi:pick ops.toList i=some o)(q:Region.ready md ops b=[i])(h:wpList P ops (eL Q (λk w'=>S w'/\wpAnyH P md ops Q S fuel (b.setIfInBounds i true) k w')) [o] a w):wpAnyH P md ops Q S (fuel+1) b a w:=by
 refine wpAnyH_all q aS λj hj=>?_;obtain rfl:j=i:=by simpa using hj
 have hi:=r9 hi;unfold wpOp;simp only[hi];simp only[wpList] at h;have g:∀k w',eL Q (λk w'=>S w'/\wpAnyH P md ops Q S fuel (b.setIfInBounds j true) k w') .normal k w'->S w'/\wpAnyH P md ops Q S fuel (b.setIfInBounds j true) k w':=λ_ _ h=>h.1 rfl
 split
 ·rename_i m
  rw[ad m] at h;rcases h with h|⟨h1,a1,w1,h2⟩
  ·left;unfold Oper.wp at*;generalize(execOp a.eval o).run P w=r at*;cases r with
   |ok n w'=>
    cases n<;>simp only[Oper.upon] at h⊢
    case value u=>exact g _ _ h
    case skip=>exact g _ _ h
    case defer d=>exact g _ _ h
    case enter f args=>
     refine fT h λe p l=>?_;cases e with
     |returned u=>exact g _ _ l
     |panicked c=>exact l.2 aS
     |outgrown=>obtain⟨a1,w1,h2⟩:=l;exact⟨a1,w1,h2.2 aS⟩
    case row row args=>exact Rows.mono h λu p l=>g _ _ l
   |halt x w'=>
    cases x<;>simp only[Oper.upon] at h⊢
    case panic u=>exact h.2 aS
  ·exact .inr ⟨h1,a1,w1,h2.2 aS⟩
 ·rename_i m
  rw[ac m] at h;exact g _ _ h
theorem cO{id:Nat}(S:World->Prop)(hm:P.follows .mixedOrders=true)(h:wpAnyH P .any l.toArray Q S l.length (Array.replicate l.length false) a w.drew):(Code.region id l.toArray true).wp P Q a w:=
 wp_region_held hm (by simpa using h)
theorem lU(i:nI ops is l)(hs:Region.noSelect ops=true)(hQ:∀d v c a w,Q (.panic c) (Act.put a (some d) v) w->Q (.panic c) a w){n:Nat}(hn:n=fuel+is.length)(f:wR md ops is b=true)(g:S w)(h:∀K:Act->Prop,(∀e,wpAnyH P md ops Q S fuel (sW is b) e w->K e)->wpQuiet P ops (uh S) K l a):wpAnyH P md ops Q S n b a w:=by
 subst hn;exact Dt i hs hQ f g (h _ λ_ h=>h)
theorem vS(c:Region.ready md ops b=[])(h:Q .normal a w):wpAnyH P md ops Q S fuel b a w:=wpAnyH_done c h fuel
end
def r7(ops:List Oper):List Nat->Option (List Oper)
 | []=>some []
 |i::is=>match pick ops i with|some o=>(match r7 ops is with|some l=>some (o::l)|none=>none)|none=>none
theorem wO:∀{is:List Nat}{l:List Oper},r7 ops.toList is=some l->nI ops is l
 | [],l,h=>by simp only[r7,Jc] at h;subst h;exact .nil
 |i::is,l,h=>by
  simp only[r7] at h;cases h1:pick ops.toList i with
  |none=>rw[h1] at h;cases h
  |some o=>
   rw[h1] at h;cases h2:r7 ops.toList is with
   |none=>rw[h2] at h;cases h
   |some m=>rw[h2] at h;simp only[Jc] at h;subst h;exact .cons h1 (wO h2)
section
variable{P:Program}{ops:Array Oper}{Q:Exit->Act->World->Prop}{md:Region.Mode}{S:World->Prop}
variable{fuel:Nat}{l:List Oper}{b:Array Bool}{a:Act}{w:World}
theorem aR(is:List Nat){n:Nat}(i:r7 ops.toList is=some l)(g:S w)(h:∀K:Act->Prop,(∀e,wpAnyH P md ops Q S fuel (sW is b) e w->K e)->wpQuiet P ops (uh S) K l a)(hn:n=fuel+is.length:=by rfl)(hs:Region.noSelect ops=true:=by kernel_rfl)(f:wR md ops is b=true:=by kernel_rfl)(hQ:∀d v c a w,Q (.panic c) (Act.put a (some d) v) w->Q (.panic c) a w:=by exactλ_ _ _ _ _ h=>h):wpAnyH P md ops Q S n b a w:=lU (wO i) hs hQ hn f g h
theorem aL(i:Nat){o:Oper}(hi:pick ops.toList i=some o)(h:wpList P ops (eL Q (λc w'=>S w'/\wpAnyH P md ops Q S fuel (b.setIfInBounds i true) c w')) [o] a w)(d:Region.ready md ops b=[i]:=by kernel_rfl):wpAnyH P md ops Q S (fuel+1) b a w:=tF hi d h
theorem aN(h:Q .normal a w)(c:Region.ready md ops b=[]:=by kernel_rfl):wpAnyH P md ops Q S fuel b a w:=vS c h
theorem aG{id:Nat}(S:World->Prop)(h:wpAnyH P .any l.toArray Q S l.length (Array.replicate l.length false) a w.drew)(hm:P.follows .mixedOrders=true:=by kernel_rfl):(Code.region id l.toArray true).wp P Q a w:=cO S hm h
end
theorem aW(L:List Nat)(W:World):Nonempty (HW (λa=>af L W a)):=⟨⟨W,af.refl _ _⟩⟩
theorem eQ{P:Program}{Q:Exit->Act->World->Prop}{md:Region.Mode}{fuel:Nat}(is:List Nat){l:List Oper}{n:Nat}{e:Array Bool}{a b:Act}(j:r7 ops.toList is=some l)(i:S w)(h:wpAnyH P md ops Q S fuel (sW is e) b w)(t:wpAnyH P md ops Q S fuel (sW is e) b w->∀K:Act->Prop,(∀f,wpAnyH P md ops Q S fuel (sW is e) f w->K f)->wpQuiet P ops (uh S) K l a:=by intro y K k;(repeat (go_big_quiet_step (fail)));exact xi (k _ y))(hn:n=fuel+is.length:=by rfl)(hs:Region.noSelect ops=true:=by kernel_rfl)(g:wR md ops is e=true:=by kernel_rfl)(hQ:∀d v c a w,Q (.panic c) (Act.put a (some d) v) w->Q (.panic c) a w:=by exactλ_ _ _ _ _ h=>h):wpAnyH P md ops Q S n e a w:=aR is j i (t h) hn hs g hQ
theorem zF{L:List Nat}{b:Nat}{vs:List Value}{T:TypeId}(h:aq w b vs T)(n:b∉L)(i:Nat){v:Value}(hv:vs[i]? =some v):∀q:HW (λx=>af L w x),q.w.cell? (b,i)=some v:=λq=>(h.Rr q.h n).cell hv
end Go.Proofs.YteijjhahgabalaaGreat
namespace Go.Proofs.YteijjhahgabalaaGreat
open Go.RowKit
def Id(i:Nat):List Nat->Bool
 | []=>false
 |j::l=>match Nat.beq i j with|true=>true|false=>Id i l
def vx(d:List Nat):List Edge->Bool
 | []=>true
 |⟨i,.textOnly _⟩::l=>vx d l
 |⟨i,.gcOnly _⟩::l=>vx d l
 |⟨i,_⟩::l=>match Id i d with|true=>vx d l|false=>false
def JC{β:Type}(n:Nat)(k:Nat->β):β:=match n+1 with| 0=>k 0|m+1=>k (m+1)
def EO{α β:Type}:List α->List α->(List α->β)->β
 | [],b,k=>k b
 |x::l,b,k=>EO l (x::b) k
def EA{β:Type}(k:List Nat->List Nat->List Oper->β):List Oper->Nat->List Nat->List Nat->List Oper->β
 | [],_,d,u,v=>k d u v
 |o::r,i,d,u,v=>JC i λi'=>match Id i d with
  |true=>EA k r i' d u v
  |false=>match yV o.op with
   |false=>EA k r i' d u v
   |true=>match vx d o.after.toList with
    |true=>EA k r i' (i::d) (i::u) (o::v)
    |false=>EA k r i' d u v
def Kd{β:Type}(k:Nat->Oper->β)(e:β):List Oper->Nat->List Nat->β
 | [],_,_=>e
 |o::r,i,d=>JC i λi'=>match Id i d with
  |true=>Kd k e r i' d
  |false=>match vx d o.after.toList with
   |true=>k i o
   |false=>Kd k e r i' d
def E4(ops:List Oper):Nat->List Nat->List (List Nat×Nat)->List (List Oper×Oper)->Option (List (List Nat×Nat)×List Nat×List (List Oper×Oper)×List Oper)
 | 0,_,_,_=>none
 |n+1,d,s,L=>EA (λd u v=>EO u [] λu=>EO v [] λv=>
  Kd (λi o=>E4 ops n (i::d) ((u,i)::s) ((v,o)::L)) (EO s [] λs=>EO L [] λL=>some (s,u,L,v)) ops 0 d) ops 0 d [] []
def N7(md:Region.Mode)(ops:Array Oper):List (List Nat×Nat)->List Nat->Array Bool->Bool
 | [],t,listed=>wR md ops t listed&&(Region.ready md ops (sW t listed)).isEmpty
 |(t,i)::r,tl,listed=>wR md ops t listed&&(Region.ready md ops (sW t listed)==[i])&&N7 md ops r tl ((sW t listed).setIfInBounds i true)
def r8(ops:List Oper):List Nat->List Oper
 | []=>[]
 |i::is=>match pick ops i with|some o=>o::r8 ops is|none=>[]
def E5:List (List Nat×Nat)->List Nat->Nat
 | [],t=>t.length
 |(t,_)::r,tl=>E5 r tl+1+t.length
inductive vq(ops:Array Oper):List (List Nat×Nat)->List (List Oper×Oper)->Prop
 |nil:vq ops [] []
 |cons {t:List Nat} {i:Nat} {o:Oper} {u:List Oper} {r:List (List Nat×Nat)} {l:List (List Oper×Oper)}:nI ops t u->pick ops.toList i=some o->vq ops r l->vq ops ((t,i)::r) ((u,o)::l)
section
variable(P:Program)(ops:Array Oper)(Q:Exit->Act->World->Prop)(S:World->Prop)
def IT:List (List Oper×Oper)->List Oper->Act->World->Prop
 | [],t,a,w=>wpQuiet P ops (uh S) (λa'=>Q .normal a' w) t a
 |(t,o)::r,tl,a,w=>wpQuiet P ops (uh S) (λa'=>wpList P ops (eL Q (λa'' w''=>S w''/\IT r tl a'' w'')) [o] a' w) t a
end
section
variable{P:Program}{ops:Array Oper}{Q:Exit->Act->World->Prop}{md:Region.Mode}{S:World->Prop}
variable{o:Oper}{a:Act}{w:World}
theorem BE{Q Q':Exit->Act->World->Prop}(h:∀e a w,Q e a w->Q' e a w)(b:wpList P ops Q [o] a w):wpList P ops Q' [o] a w:=by
 unfold wpList at b⊢
 split
 ·rename_i i
  rw[ad i] at b;rcases b with b|⟨h1,a1,w1,h2⟩
  ·left;unfold Oper.wp at*;generalize(execOp a.eval o).run P w=r at*;have hn:∀a w,wpList P ops Q [] a w->wpList P ops Q' [] a w:=λa w k=>h _ _ _ k;cases r with
   |ok n w'=>
    cases n<;>simp only[Oper.upon] at b⊢
    case value u=>exact hn _ _ b
    case skip=>exact hn _ _ b
    case defer d=>exact hn _ _ b
    case enter f args=>
     refine fT b λe j g=>?_;cases e with
     |returned u=>exact hn _ _ g
     |panicked c=>exact h _ _ _ g
     |outgrown=>obtain⟨a1,w1,h2⟩:=g;exact⟨a1,w1,h _ _ _ h2⟩
    case row row args=>exact Rows.mono b λu j g=>hn _ _ g
   |halt x w'=>
    cases x<;>simp only[Oper.upon] at b⊢
    case panic u=>exact h _ _ _ b
  ·exact .inr ⟨h1,a1,w1,h _ _ _ h2⟩
 ·rename_i i
  rw[ac i] at b;exact h _ _ _ b
theorem Pk{C:World->Prop}{K d:Act->Prop}(b:∀a,K a->d a):∀{l:List Oper}{a:Act},wpQuiet P ops C K l a->wpQuiet P ops C d l a
 | [],_,h=>b _ h
 |o::l,a,h=>by
  unfold wpQuiet at h⊢
  split
  ·rename_i c
   rw[ad c] at h;exact Oper.quiet_mono (λa h=>Pk b h) h
  ·rename_i c
   rw[ac c] at h;exact Pk b h
variable{L:List (List Oper×Oper)}{tl:List Nat}{T:List Oper}
theorem IU(hs:Region.noSelect ops=true)(hQ:∀d v c a w,Q (.panic c) (Act.put a (some d) v) w->Q (.panic c) a w){p:List (List Nat×Nat)}(x:vq ops p L)(ht:nI ops tl T):
 ∀{b:Array Bool}{a:Act}{w:World},N7 md ops p tl b=true->S w->IT P ops Q S L T a w->wpAnyH P md ops Q S (E5 p tl) b a w:=by
 induction x with
 |nil=>
  intro b a w f m h;simp only[N7,xn,List.isEmpty_iff] at f;refine lU (fuel:=0) ht hs hQ (by simp[E5]) f.1 m λK j=>?_;exact Pk (λq g=>j _ (vS f.2 g)) h
 | @cons t i o u r l y hi _ z=>
  intro b a w f m h;simp only[N7,xn,beq_iff_eq] at f;refine lU (fuel:=E5 r tl+1) y hs hQ rfl f.1.1 m λK j=>?_;exact Pk (λq g=>j _ (tF hi f.1.2 (BE (λe s A k=>⟨λn=>⟨(k.1 n).1,z f.2 (k.1 n).1 (k.1 n).2⟩,k.2⟩) g))) h
theorem uK{ops:Array Oper}:∀{is:List Nat},(r8 ops.toList is).length=is.length->nI ops is (r8 ops.toList is)
 | [],_=>.nil
 |i::is,h=>by
  unfold r8 at h⊢;cases a:pick ops.toList i with
  |none=>rw[a] at h;simp at h
  |some o=>rw[a] at h;simp only[xp,Nat.add_right_cancel_iff] at h;exact .cons a (uK h)
def AX(ops:List Oper):List (List Nat×Nat)->Option (List (List Oper×Oper))
 | []=>some []
 |(t,i)::r=>match pick ops i with
  |some o=>match AX ops r with|some l=>some ((r8 ops t,o)::l)|none=>none
  |none=>none
def Hx(ops:List Oper):List (List Nat×Nat)->Bool
 | []=>true
 |(t,_)::r=>(r8 ops t).length==t.length&&Hx ops r
theorem zl:∀{a:List (List Nat×Nat)}{L:List (List Oper×Oper)},AX ops.toList a=some L->Hx ops.toList a=true->vq ops a L
 | [],L,h,_=>by simp only[AX,Jc] at h;subst h;exact .nil
 |(t,i)::r,L,h,hl=>by
  simp only[AX] at h;simp only[Hx,xn,beq_iff_eq] at hl;cases h1:pick ops.toList i with
  |none=>rw[h1] at h;cases h
  |some o=>
   rw[h1] at h;cases h2:AX ops.toList r with
   |none=>rw[h2] at h;cases h
   |some m=>rw[h2] at h;simp only[Jc] at h;subst h;exact .cons (uK hl.1) h1 (zl h2 hl.2)
structure O7(P:Program)(Q:Exit->Act->World->Prop)(l:List Oper)(ss:List (List Nat×Nat))(tl:List Nat)(L:List (List Oper×Oper))(T:List Oper):Prop where
 h2:AX l ss=some L
 h3:r8 l tl=T
 hn:E5 ss tl=l.length
 ho:N7 .any l.toArray ss tl (Array.replicate l.length false)=true
 hl:Hx l ss=true
 ht:(T.length==tl.length)=true
 hs:Region.noSelect l.toArray=true
 hm:P.follows .mixedOrders=true
 hQ:∀d v c a w,Q (.panic c) (Act.put a (some d) v) w->Q (.panic c) a w
variable{id:Nat}{l:List Oper}
theorem aZg(S:World->Prop){b:List (List Nat×Nat)}(h1:E4 l 40 [] [] []=some (b,tl,L,T))(c:S w.drew)(h:IT P l.toArray Q S L T a w.drew)(H:O7 P Q l b tl L T:=by constructor<;>first|kernel_rfl|exactλ_ _ _ _ _ h=>h):(Code.region id l.toArray true).wp P Q a w:=by
 obtain⟨h2,h3,hn,ho,hl,ht,hs,hm,hQ⟩:=H;subst h3;clear h1;refine wp_region_held (S:=S) hm ?_;have:=IU (md:=.any) (a:=a) (w:=w.drew) hs hQ (zl (ops:=l.toArray) h2 hl) (uK (ops:=l.toArray) (by simpa using ht)) ho c h;rw[hn] at this;exact this
theorem NN(h:(Code.region id l.toArray true).wp P Q a w):(Code.region id l.toArray true).wp P Q a w:=h
variable{S:World->Prop}{u:List Oper}{g:Prop}
theorem JE{r:List (List Oper×Oper)}{tl:List Oper}(k:g)(h:g->∀K:Act->Prop,(∀d,wpList P ops (eL Q (λc b=>S b/\IT P ops Q S r tl c b)) [o] d w->K d)->wpQuiet P ops (uh S) K u a:=by intro k K hK;(repeat (go_big_quiet_step (fail)));exact xi (hK _ k)):IT P ops Q S ((u,o)::r) tl a w:=h k _ λ_ h=>h
theorem JF(k:g)(h:g->∀K:Act->Prop,(∀b,Q .normal b w->K b)->wpQuiet P ops (uh S) K u a:=by intro k K hK;(repeat (go_big_quiet_step (fail)));exact xi (hK _ k)):IT P ops Q S [] u a w:=h k _ λ_ h=>h
end
end Go.Proofs.YteijjhahgabalaaGreat
