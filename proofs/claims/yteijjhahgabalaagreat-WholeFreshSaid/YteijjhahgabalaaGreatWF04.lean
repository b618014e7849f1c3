/- A region that draws its order, whose operations read or call quietly, but for a last row of operations that wait for all the others: one walk in the order of the text serves every order. -/
import Derived.Deep.Quiet
import Derived.Deep.QuietTactic
import Derived.StillTail
import Derived.BigQuiet
set_option maxRecDepth 100000
set_option maxHeartbeats 8000000
set_option linter.all false
namespace Go.Proofs.YteijjhahgabalaaGreat
section
variable{P:Program}{ops:Array Oper}{md:Region.Mode}{C:World->Prop}
def vQ(P:Program)(md:Region.Mode)(ops:Array Oper)(C:World->Prop)(n:Nat)(L:Array Bool->Act->Prop):Nat->Array Bool->Act->Prop
 | 0,listed,a=>L listed a
 |f+1,listed,a=>Region.ready md ops listed≠[]/\∀i∈Region.ready md ops listed,i<n/\qOp P ops C i (vQ P md ops C n L f (listed.setIfInBounds i true)) a
variable{n g:Nat}{L:Array Bool->Act->Prop}
theorem ue{Q':Exit->Act->World->Prop}(k:∀b a,L b a->∀w,C w->wpAny P md ops Q' g b a w):
 ∀(f:Nat)(b:Array Bool)(a:Act),vQ P md ops C n L f b a->∀w,C w->wpAny P md ops Q' (f+g) b a w:=by
 intro f;induction f with
 |zero=>intro b a h w c;rw[Nat.zero_add];exact k _ _ h w c
 |succ f l=>
  intro b a h w c;rw[show f+1+g=(f+g)+1 by omega];refine⟨λj=>absurd j h.1,λi hi=>wpOp_of_qOp c (λm w' d e=>?_) (h.2 i hi).2⟩;exact l _ _ e w' d
theorem vR{i:Nat}{A:Oper}{v:Value}(hi:ops[i]? =some A)(p:∀(j:Nat)(o:Oper) cs b,ops[j]? =some o->o.op≠ .select cs b)(hs:Region.sinkB md ops n=true)(J:Region.chainB md ops n=true)(hn:n<ops.size)(r:i<n)(q:∀c a,L c a->∀j∈Region.ready md ops c,n<=j):
 ∀(f:Nat)(c:Array Bool)(a:Act),HeadInv md ops n c->
  (∀j t,ops[j]? =some t->j≠i->c.getD j true=false->(∀e∈t.after,Region.binds md e=true->e.on≠i)->A.apart ops t=true)->
  i∈Region.ready md ops c->YieldsIn P ops C A v a->vQ P md ops C n L f (c.setIfInBounds i true) (a.put A.dst v)->vQ P md ops C n L (f+1) c a:=by
 intro f;induction f with
 |zero=>
  intro c a inv _ m B H;refine⟨λh=>(by rw[h] at m;cases m),λj hj=>?_⟩;by_cases d:j=i
  ·subst d;exact⟨r,B.qOp hi H⟩
  ·have h1:=q _ _ H j (ready_mono hj d);exact absurd hj (tail_waits hs J hn inv _ i rfl r (mem_ready.1 m).1 j h1)
 |succ f N=>
  intro c a inv g m B H;refine⟨λh=>(by rw[h] at m;cases m),λj hj=>?_⟩;by_cases d:j=i
  ·subst d;exact⟨r,B.qOp hi H⟩
  ·obtain⟨x,h1⟩:=H.2 j (ready_mono hj d);refine⟨x,?_⟩;obtain⟨l,t,s,u⟩:=mem_ready.1 hj;have y:∀e∈t.after,Region.binds md e=true->e.on≠i:=λe K I D=>by
    have h2:=u e K I;rw[D,getD_both (mem_ready.1 m).1] at h2;cases h2
   have h2:=qOp_put s (g j t s d l y) (λcs b=>p i A cs b hi) (λcs b=>p j t cs b s) B h1;refine qOp_mono (λG h3=>N (c.setIfInBounds j true) G (inv.set hj x) ?_ (ready_mono m (Ne.symm d)) h3.1 ?_) h2
   ·intro k ok M E z F;refine g k ok M E ?_ F;by_cases w:j=k
    ·subst w;exact l
    ·rw[getD_set_ne true w] at z;exact z
   ·rw[Array.setIfInBounds_comm _ _ d];exact h3.2
theorem A1{q:Act->Prop}(f:Region.noSelect ops=true)(hs:Region.sinkB md ops n=true)(x:Region.chainB md ops n=true)(hn:n<ops.size):
 ∀(l:List Oper)(k:Nat)(b:Array Bool)(a:Act),(∀j,j<l.length->l[j]? =ops[k+j]?)->k+l.length=n->HeadInv md ops n b->
  Region.lexHead md ops g l.length k b=true->wpQuiet P ops C q l a->vQ P md ops C n (λc t=>Region.seqB md ops g n c=true/\q t) l.length b a:=by
 intro l;induction l with
 |nil=>
  intro k b a _ p _ m h;obtain rfl:k=n:=by simpa using p
  exact⟨by simpa[Region.lexHead] using m,h⟩
 |cons o l B=>
  intro k b a hl p inv m h;have i:ops[k]? =some o:=by simpa using(hl 0 (by simp)).symm
  simp only[List.length_cons,Region.lexHead,Bool.and_eq_true] at m;obtain⟨⟨z,y⟩,r⟩:=m;have d:k<n:=by simp only[List.length_cons] at p;omega
  have e:k∈Region.ready md ops b:=by simpa using z
  have s:qOp P ops C k (wpQuiet P ops C q l) a:=by unfold qOp;simp only[i];exact h
  obtain⟨v,A,u⟩:=yieldsIn_of_qOp i s;refine vR i (Region.noSelect_spec f) hs x hn d (λc t w=>seqB_ready w.1) l.length b a inv (Region.free_spec i y) e A (B (k+1) _ _ (λj hj=>?_) (by simp only[List.length_cons] at p;omega) (inv.set e d) r u);have:=hl (j+1) (by simp;omega);simpa[Nat.add_assoc,Nat.add_comm 1 j] using this
theorem ig{id:Nat}{Q:Exit->Act->World->Prop}{a:Act}{w:World}{l:List Oper}(n:Nat)(hm:P.follows .mixedOrders=true)(p:Region.lexTailB .any l.toArray n=true)
 (h:wpQuiet P l.toArray (λw'=>∃m,w'=w.drewN m) (λi=>∀w',(∃m,w'=w.drewN m)->wpList P l.toArray Q (l.drop n) i w') (l.take n) a):(Code.region id l.toArray true).wp P Q a w:=by
 simp only[Region.lexTailB,Bool.and_eq_true,decide_eq_true_eq] at p;obtain⟨⟨⟨⟨e,hn⟩,hs⟩,r⟩,d⟩:=p;have s:n<l.length:=by simpa using hn
 have b:(l.take n).length=n:=by simp;omega
 have f:HeadInv .any l.toArray n (Array.replicate l.toArray.size false):=
  ⟨by simp,λj u _ hl=>(by rw[getD_replicate_false] at hl;cases hl),λt _ ht=>getD_in (by simpa using ht) (getD_replicate_false _ _)⟩
 have H:=A1 (C:=λw'=>∃m,w'=w.drewN m) (md:=.any) (g:=l.toArray.size - n) e hs r hn (l.take n) 0 _ a (λj hj=>by
  have k:j<n:=by rw[b] at hj;exact hj
  simp[k]) (by simpa using b) f (by rw[b];exact d) h
 refine wp_region_any hm ?_;have:=ue (Q':=Q) (g:=l.toArray.size - n) (λc i q w' o=>by
  have h2:=wpAny_of_seq (md:=.any) (Q':=Q) (l.drop n) n c i w' (λj=>by simp[List.getElem?_drop]) (by rw[show(l.drop n).length=l.toArray.size - n by simp];exact q.1) (q.2 w' o)
  rwa [show(l.drop n).length=l.toArray.size - n by simp] at h2) _ _ _ H {w with drawn:=w.drawn+1} ⟨1,rfl⟩
 rw[b,show n+(l.toArray.size - n)=l.toArray.size by simp;omega] at this;exact this
end
end Go.Proofs.YteijjhahgabalaaGreat
