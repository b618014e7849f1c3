/- The contracts of package path: what a topology says of its threads, found when it is asked for first. -/
import Derived.Test.YteijjhahgabalaaGreatWF15
import Derived.Test.YteijjhahgabalaaGreatWF10
import Derived.Test.YteijjhahgabalaaGreatWF22
import Derived.Test.YteijjhahgabalaaGreatWF02
import Derived.Test.YteijjhahgabalaaGreatWF14
import Derived.Test.YteijjhahgabalaaGreatWF13
import Derived.Handy
import Derived.Test.YteijjhahgabalaaGreatWF19
import Derived.Test.YteijjhahgabalaaGreatWF06
import Derived.Test.YteijjhahgabalaaGreatWF21
import Derived.Test.YteijjhahgabalaaGreatWF20
import Derived.BigQuiet
set_option maxRecDepth 100000
set_option maxHeartbeats 8000000
set_option linter.all false
namespace Go.Proofs.YteijjhahgabalaaGreat
open Go.RowKit
open Tryz
def tE(P:List Int):List Int:=du P P.length
def mS(P:List Int)(x:Int):Nat:=(tE P).idxOf x
def eH(T:List Int)(k:Nat):List Int:=(List.range k).map λi=>((T.take i).count (T[i]?.getD 0):Int)
theorem pZ(T:List Int)(k:Nat):eH T (k+1)=eH T k++[((T.take k).count (T[k]?.getD 0):Int)]:=by unfold eH;rw[xr,xu];rfl
variable{k:Nat}
theorem Kw{E:List Int}{x:Int}(c:k<E.length)(b:E[k]?.getD 0=x)(hj:∀i,i<k->E[i]?.getD 0≠x):E.idxOf x=k:=by
 induction E generalizing k with
 |nil=>simp at c
 |cons a E e=>
  cases k with
  |zero=>
   have:a=x:=by simpa using b
   subst this;simp
  |succ k=>
   have d:a≠x:=by simpa using hj 0 aO
   rw[List.idxOf_cons];have:(a==x)=false:=by simpa using d
   rw[this];simp only[cond_false];rw[e (by simpa using c) (by simpa using b) (λi hi=>by simpa using hj (i+1) aO)]
section
variable{w:World}{b1:Nat}{v:Value}
variable{x:Int}
theorem v7{E:List Int}(t:aZ w b1 v E)(hn:E.length<=100)(hm:x∈E):Calls prog 84 #[v,x] w λe w'=>e= .returned (E.idxOf x:Int)/\w=w':=by
 obtain⟨a,cap,rfl, -,g⟩:=t;have q:=aH g;have p:=aH hm;have l:=λ(k:Nat) (n:k<E.length) (s:E[k]?.getD 0=x) hj=>Kw n s hj;have HI:=aH l;clear g hm l;go_enter func84,ntmps84;go_wp2_with fail;go_loopw[8] (λh u=>∃k:Nat,h= .int .i64 k/\k<=E.length/\(∀i,i<k->E[i]?.getD 0≠x)/\w=u) (λh _=>E.length - (intOf h).toNat)
 case atStart=>exact⟨0,rfl,by omega,λi hi=>by omega,rfl⟩
 case round=>
  obtain⟨k,rfl,n,hj,rfl⟩:=hrel;have HJ:=aH hj;clear hj;by_cases d:k<E.length
  ·have z:decide ((k:Int)<E.length)=true:=by simpa using d
   have r:decide (k<E.length)=true:=by simpa using d
   have l1:(k:Int)<E.length:=by omega
   obtain⟨b,off,_,rfl,m⟩:=q.o aO;have c1:=m k d;clear m;generalize o:E[k]?.getD 0=y at*;have j:=aH o;clear o;by_cases c:x=y
   ·have d1:(x==y)=true:=by simpa using c
    have f:=aH c;clear c;go_wp2;go_ret;exact⟨eW (by rw[HI.o k d (by rw[j.o,f.o]) HJ.o]),rfl⟩
   ·have d1:(x==y)=false:=by simpa using c
    have f:=aH c;clear c;go_wp2_with fail;go_roundw
    case rel=>
     refine⟨k+1,by go_num,by omega,λi hi=>?_,by trivial⟩;by_cases e:i=k
     ·subst e;rw[j.o];exactλe=>f.o e.symm
     ·exact HJ.o i aO
    case measure=>simp[intOf];omega
  ·exfalso;obtain⟨i,hi⟩:=FO p.o;have:=(pH.1 hi).1;exact HJ.o i aO (by rw[hi];rfl)
theorem aq.differ{w:World}{b e:Nat}{vs c:List Value}{T d:TypeId}(h:aq w b vs T)(a:aq w e c d)(ht:T≠d):b≠e:=by
 rintro rfl;unfold aq at h a;rw[h] at a;have:=nE a;injection this with _ h2;exact ht h2
def IR(w:World)(g:Nat)(v:Value)(zs:List Int):Prop:=∃cap cur,v= .slice (some ⟨g,0,none⟩) zs.length cap/\aq w g cur 3/\zs.length<=maxLen/\∀i,i<zs.length->cur[i]? =some (.int .i64 (zs[i]?.getD 0))
theorem IR.Rr{w':World}{g:Nat}{zs:List Int}(h:IR w g v zs){Z:List Nat}(a:af Z w w')(b:g∉Z):IR w' g v zs:=by
 obtain⟨cap,cur,h1,h2,h3⟩:=h;exact⟨cap,cur,h1,h2.Rr a b,h3⟩
variable{zs:List Int}
theorem IR.row{g:Nat}(h:IR w g v zs):aZ w 0 v zs:=by
 obtain⟨cap,cur,h1,h2,h3,h4⟩:=h;refine⟨some ⟨g,0,none⟩,cap,h1,h3,λ_=>⟨g,0,fA _,rfl,λi hi=>?_⟩⟩;rw[jM];exact h2.cell (h4 i hi)
theorem IR.lt{g:Nat}{zs:List Int}(h:IR w g v zs):g<w.heap.size:=by
 obtain⟨cap,cur,h1,h2,h3⟩:=h;exact h2.lt
theorem IR.SN{B:Nat}(hn:zs≠[])(h:w.ownsRow B 3 1 v zs.length (zs.map (Value.int .i64))):∃g,B<=g/\IR w g v zs/\v.ownBlock=some g:=by
 obtain⟨h1,h2⟩:=h;rcases h2 with⟨_,h2⟩|⟨g,cap,cur,hv,b,e,f,c,d,a⟩
 ·exact am (BL.1 h2) hn
 ·refine⟨g,b,⟨cap,cur.toList,hv,by unfold aq;simpa using e,by omega,λi hi=>?_⟩,by rw[hv];rfl⟩;have h3:(cur.toList.take (zs.length*1))[i]? =(zs.map (Value.int .i64))[i]? :=by rw[a]
  rw[y5 aO,iL] at h3;rw[h3];simp[hi]
variable{T P:List Int}
theorem kT(hs:ea P T)(a:x∈T):x∈tE P:=wY (hs.ends x a)
theorem ki(P:List Int):(tE P).length<=P.length:=by
 unfold tE du;rw[kZ];exact dv (FN _ _) aS
theorem Ar{t:Nat}{u:Value}(j:aZ w b1 v P)(n:aZ w t u T)(hs:ea P T):
 Calls prog 113 #[.agg #[v,u]] w λe w'=>∃r,e= .returned r/\oA w' w.heap.size r (tE P)/\af [] w w':=by
 have p:=aH (λ(W:World) (d:af [] w W)=>mx W (j.Rr d aS) (n.Rr d aS) hs);have q:=aH (λ(W:World) (d:af [] w W)=>tM (j.Rr d aS) (by have:=hs.size.2.1;omega) hs.tree);obtain⟨a,cap,rfl,h1, -⟩:=j;obtain⟨k,b,rfl,h2, -⟩:=n;have l:=aq.new w #[.slice a P.length cap,.slice k T.length b] 24;have o:=aH l;clear l;go_enter func113,ntmps113;go_wp2_with fail;refine gF (p.o _ (aF.alloc _)) ?_;rintro w1 c;have f:=aH (((af.refl [] w).alloc (.cells #[.slice a P.length cap,.slice k T.length b] 24)).trans c);have x:=(o.o.Rr c aS).cell (i:=0) rfl;have h:=f.o.size;clear c;go_wp2_with fail;refine(q.o _ f.o).mono ?_;rintro e w2 ⟨r,rfl,m,c⟩;have s:=aH (m.base h);have g:=aH (f.o.trans c);clear m c;go_wp2;go_ret;exact⟨r,rfl,s.o,g.o⟩
theorem Br(b a l c:Nat)(W:World):(binOp .eql 22 (.slice (some ⟨b,a,none⟩) l c) (.slice none 0 0)).run prog W= .ok (.bool false) W:=by kernel_rfl
theorem oE(h:aZ w b1 v zs)(hn:1<=zs.length)(hm:zs.length<=100):Calls prog 58 #[v] w λe w'=>∃u,e= .returned u/\oA w' w.heap.size u zs/\af [] w w':=by
 obtain⟨i0,hi,n,o,p⟩:=mN nY;obtain⟨a,cap,rfl,h1,y⟩:=h;obtain⟨b,off,G,rfl,i⟩:=y aO;have f:∀(j:Nat)(u:Value),(zs.map (Value.int .i64))[j]? =some u->w.cell? ((⟨b,off,none⟩:Addr).add j)=some u:=by
  intro j u m;have hj:j<zs.length:=by have:=(pH.1 m).1;simpa using this
  have e:(⟨b,off,none⟩:Addr).add j=⟨b,off+j,none⟩:=by
   unfold Addr.add
   split
   ·rename_i C;subst C;rfl
   ·rfl
  rw[e,i j hj];rw[iL] at m;rw[<-m];simp[hj]
 have c:∀u∈zs.map (Value.int .i64),u.oneCell'=true:=by
  intro u m;obtain⟨z,_,rfl⟩:=FH.1 m;simp[Value.oneCell']
 have s:=aH f;have q:=aH c;have HI:=aH (ae hi (ae n (ae o p)));clear y i f c hi n o p;have E:=Br b off zs.length cap;have l:(w.alloc (.cells #[] 3)).ownsRow w.heap.size 3 1 (.slice (some ⟨w.heap.size,0,none⟩) 0 0) 0 []:=⟨rfl,.inr ⟨w.heap.size,0,#[],rfl,ba _,aq.new w #[] 3,ba _,fA _,rfl,rfl⟩⟩
 have t:=aH l;have r:=aH (λ(j:Nat) (u:Value) (h:(zs.map (Value.int .i64))[j]? =some u)=>((af.refl [] w).alloc (.cells #[] 3)).cell (s.o j u h) aS);clear l;go_enter func58,ntmps58;go_wp2_with(at_builtin;go_must(refine sK _ rfl _ _ 22 rfl w.heap.size 3 i0 (.int .i64 0) 1 8 underlying22 HI.o.1 HI.o.2.1 HI.o.2.2.1 HI.o.2.2.2 rfl aJ (.slice (some ⟨w.heap.size,0,none⟩) 0 0) 0 [] rfl t.o ⟨b,off,none⟩ zs.length cap (zs.map (Value.int .i64)) rfl aS r.o q.o aM aO (by rw[bP];omega) ?_;intro v' w1 g d _;have B:=aH g;have A:=aH d;clear g d))
 go_ret;refine⟨v',rfl,?_,?_⟩
 ·have:=B.o;unfold oA;simpa using this
 ·exact((af.refl [] w).alloc _).Rx (S':=[w.heap.size]) (af.SM A.o (λk D=>.inl (by have:w.heap.size=k:=nE D;simp[this]))) (λx F=>.inr (by simp at F;omega))
end
theorem EU:(prog.info? 22).map (λi=>(i.zero,i.size,i.bytes))=some (some (.slice none 0 0),1,24):=by kernel_rfl
variable{w:World}{g:Nat}{v:Value}{zs:List Int}
theorem nm(h:IR w g v zs)(c:k<zs.length):w.cell? (g,k)=some (.int .i64 (zs[k]?.getD 0)):=by
 obtain⟨_,_,_,b,_,a⟩:=h;exact b.cell (a k c)
variable{y:Int}
theorem kU{T:List Int}(a:k<T.length):((T.take (k+1)).count y:Int)=(T.take k).count y+(if T[k]?.getD 0=y then 1 else 0):=by
 rw[FU,eB a,List.count_append];simp only[Option.toList_some,BO,List.count_cons,List.count_nil];by_cases e:T[k]=y
 ·simp[e]
 ·simp[e]
variable{P:List Int}{a b:Nat}
theorem Fe(ha:a<(tE P).length)(c:b<(tE P).length)(h:(tE P)[a]?.getD 0=(tE P)[b]?.getD 0):a=b:=by
 have hl:((List.range P.length).filter (λv:Nat=> !decide ((v:Int)∈P))).length=(tE P).length:=by unfold tE du;rw[kZ]
 have hn:((List.range P.length).filter (λv:Nat=> !decide ((v:Int)∈P))).Nodup:=List.nodup_range.filter _;have d:∀i (hi:i<(tE P).length),(tE P)[i]?.getD 0=((((List.range P.length).filter (λv:Nat=> !decide ((v:Int)∈P)))[i]'(by rw[hl];exact hi):Nat):Int):=by
  intro i hi;unfold tE du;rw[iL,eB (by rw[hl];exact hi)];rfl
 rw[d a ha,d b c] at h;have h2:((List.range P.length).filter (λv:Nat=> !decide ((v:Int)∈P)))[a]'(by rw[hl];exact ha)=((List.range P.length).filter (λv:Nat=> !decide ((v:Int)∈P)))[b]'(by rw[hl];exact c):=by omega
 exact(List.getElem_inj hn).1 h2
def dZ(P:List Int):Nat->Int->List Int
 | 0,_=>[]
 |f+1,y=>if y<0 then[] else y::dZ P f (P[y.toNat]?.getD 0)
structure Rq(ws:Nat->List Int)(w0 wr:World)(tb gm:Nat)(vp vt vup vnode vslot:Value)(E:Nat)(U:List Value)(nn ss:List Int)(mm:Nat->Int):Prop where
 box:aq wr tb [vp,vt,.int .u32 0,.int .i32 1,.int .u32 0,vup,vnode,vslot,.slice (some ⟨gm,0,none⟩) E E] 136
 Tc:aq wr gm (iD E mm) 3
 up:wr.ownsRow w0.heap.size 22 1 vup U.length U
 Sh:wr.ownsRow w0.heap.size 3 1 vnode nn.length (nn.map (Value.int .i64))
 S1:wr.ownsRow w0.heap.size 3 1 vslot ss.length (ss.map (Value.int .i64))
 d1:∀g,vnode.ownBlock=some g->vslot.ownBlock≠some g/\vup.ownBlock≠some g
 d2:∀g,vslot.ownBlock=some g->vup.ownBlock≠some g
 lt:tb<w0.heap.size/\gm<w0.heap.size/\tb≠gm
 Rr:af [tb,gm] w0 wr
 ur:∀i,i<U.length->∃v,U[i]? =some v/\wr.ownsRow w0.heap.size 3 1 v (ws i).length ((ws i).map (Value.int .i64))/\∀g,v.ownBlock=some g->vup.ownBlock≠some g/\vnode.ownBlock≠some g/\vslot.ownBlock≠some g
variable{base size:Nat}{e:TypeId}{xs:List Value}
theorem bN(h:w.ownsRow base e size v k xs):∀j,v.ownBlock=some j->base<=j/\j<w.heap.size:=by
 rcases h.2 with⟨rfl,_⟩|⟨g,cap,cur,rfl,b,c,_⟩
 ·intro k a;simp[Value.ownBlock] at a
 ·intro k a;have:g=k:=nE a;subst this;exact⟨b,(I4.1 c).1⟩
variable{w':World}
theorem bR(h:w.ownsRow base e size v k xs){S:List Nat}(b:af S w w')(hs:∀g,v.ownBlock=some g->g∉S):w'.ownsRow base e size v k xs:=by
 obtain⟨h1,h2⟩:=h;refine⟨h1,?_⟩;rcases h2 with h2|⟨g,cap,cur,hv,c,a,r⟩
 ·exact .inl h2
 ·refine .inr ⟨g,cap,cur,hv,c,?_,r⟩;rw[b.block g (I4.1 a).1 (hs g (by rw[hv];rfl))];exact a
section
variable{ws:Nat->List Int}{w0 wr w1:World}{tb gm E:Nat}{vp vt vup vnode vslot v':Value}{U:List Value}{nn ss:List Int}{mm:Nat->Int}{o:Obj}
theorem bE{v:Value}(a:(wr.alloc o).grownBy w1 v.ownBlock):af v.ownBlock.toList wr w1:=
 ((af.refl [] wr).alloc o |>.mono aS).trans (af.SM (S:=v.ownBlock.toList) a (λk b=>.inl (by simp[b])) |>.mono (λ_ h=>h))
theorem Rq.TH(h:Rq ws w0 wr tb gm vp vt vup vnode vslot E U nn ss mm)(a:(wr.alloc o).grownBy w1 vnode.ownBlock):aq w1 tb [vp,vt,.int .u32 0,.int .i32 1,.int .u32 0,vup,vnode,vslot,.slice (some ⟨gm,0,none⟩) E E] 136:=
 h.box.Rr (bE a) (λhm=>by have:=bN h.Sh tb (by simpa using hm);have:=h.lt;omega)
variable{x:Int}
theorem Rq.Ue(h:Rq ws w0 wr tb gm vp vt vup vnode vslot E U nn ss mm)(f:w1.ownsRow w0.heap.size 3 1 v' (nn.length+1) (nn.map (Value.int .i64)++[.int .i64 x]))(c:(wr.alloc o).grownBy w1 vnode.ownBlock)(k:v'.ownBlock=vnode.ownBlock\/v'.ownBlock=some (wr.alloc o).heap.size):
 Rq ws w0 (w1.setCell (tb,6) v') tb gm vp vt vup v' vslot E U (nn++[x]) ss mm:=by
 have n:=h.TH c;have j:=bE c;have q:=h.lt;have b:af [tb] w1 (w1.setCell (tb,6) v'):=aU;have d:∀g,v'.ownBlock=some g->vnode.ownBlock=some g\/wr.heap.size<g:=λg a=>by
  rcases k with e|e
  ·exact .inl (e ▸ a)
  ·rw[e,bP] at a;have:wr.heap.size+1=g:=nE a;exact .inr aO
 refine{box:=n.set 6 v',Tc:=?_,up:=?_,Sh:=?_,S1:=?_,d1:=?_,d2:=?_,lt:=h.lt,Rr:=?_,ur:=?_}
 ·exact(h.Tc.Rr j (λhm=>by have:=bN h.Sh gm (by simpa using hm);omega)).other _ _ aQ
 ·exact bR (bR h.up j (λg c hm=>(h.d1 g (by simpa using hm)).2 c)) b (λg a hm=>by have:=bN h.up g a;simp at hm;omega)
 ·have:=bR f b (λg a hm=>by have:=bN f g a;simp at hm;omega);simpa using this
 ·exact bR (bR h.S1 j (λg c hm=>(h.d1 g (by simpa using hm)).1 c)) b (λg a hm=>by have:=bN h.S1 g a;simp at hm;omega)
 ·intro g a;rcases d g a with e|e
  ·exact h.d1 g e
  ·exact⟨λhm=>by have:=bN h.S1 g hm;omega,λhm=>by have:=bN h.up g hm;omega⟩
 ·exact h.d2
 ·exact(h.Rr.Rx j (λx r=>.inr (bN h.Sh x (by simpa using r)).1)).set _ _ (.inl aS)
 ·intro i hi;obtain⟨v,s,l,m⟩:=h.ur i hi;refine⟨v,s,bR (bR l j (λg c hm=>(m g c).2.1 (by simpa using hm))) b (λg a hm=>by have:=bN l g a;simp at hm;omega),λg a=>?_⟩;obtain⟨t,u,w⟩:=m g a;have p:=bN l g a;exact⟨t,λhm=>by rcases d g hm with e|e;exact u e;omega,w⟩
theorem Rq.To(h:Rq ws w0 wr tb gm vp vt vup vnode vslot E U nn ss mm)(a:(wr.alloc o).grownBy w1 vslot.ownBlock):aq w1 tb [vp,vt,.int .u32 0,.int .i32 1,.int .u32 0,vup,vnode,vslot,.slice (some ⟨gm,0,none⟩) E E] 136:=
 h.box.Rr (bE a) (λhm=>by have:=bN h.S1 tb (by simpa using hm);have:=h.lt;omega)
theorem Rq.TL(h:Rq ws w0 wr tb gm vp vt vup vnode vslot E U nn ss mm)(f:w1.ownsRow w0.heap.size 3 1 v' (ss.length+1) (ss.map (Value.int .i64)++[.int .i64 x]))(d:(wr.alloc o).grownBy w1 vslot.ownBlock)(k:v'.ownBlock=vslot.ownBlock\/v'.ownBlock=some (wr.alloc o).heap.size):
 Rq ws w0 (w1.setCell (tb,7) v') tb gm vp vt vup vnode v' E U nn (ss++[x]) mm:=by
 have n:=h.To d;have j:=bE d;have q:=h.lt;have c:af [tb] w1 (w1.setCell (tb,7) v'):=aU;have b:∀g,v'.ownBlock=some g->vslot.ownBlock=some g\/wr.heap.size<g:=λg a=>by
  rcases k with e|e
  ·exact .inl (e ▸ a)
  ·rw[e,bP] at a;have:wr.heap.size+1=g:=nE a;exact .inr aO
 refine{box:=n.set 7 v',Tc:=?_,up:=?_,Sh:=?_,S1:=?_,d1:=?_,d2:=?_,lt:=h.lt,Rr:=?_,ur:=?_}
 ·exact(h.Tc.Rr j (λhm=>by have:=bN h.S1 gm (by simpa using hm);omega)).other _ _ aQ
 ·exact bR (bR h.up j (λg d hm=>h.d2 g (by simpa using hm) d)) c (λg a hm=>by have:=bN h.up g a;simp at hm;omega)
 ·exact bR (bR h.Sh j (λg d hm=>(h.d1 g d).1 (by simpa using hm))) c (λg a hm=>by have:=bN h.Sh g a;simp at hm;omega)
 ·have:=bR f c (λg a hm=>by have:=bN f g a;simp at hm;omega);simpa using this
 ·intro g a;refine⟨λhm=>?_,(h.d1 g a).2⟩;rcases b g hm with e|e
  ·exact(h.d1 g a).1 e
  ·have:=bN h.Sh g a;omega
 ·intro g a hm;rcases b g a with e|e
  ·exact h.d2 g e hm
  ·have:=bN h.up g hm;omega
 ·exact(h.Rr.Rx j (λx r=>.inr (bN h.S1 x (by simpa using r)).1)).set _ _ (.inl aS)
 ·intro i hi;obtain⟨v,s,l,m⟩:=h.ur i hi;refine⟨v,s,bR (bR l j (λg d hm=>(m g d).2.2 (by simpa using hm))) c (λg a hm=>by have:=bN l g a;simp at hm;omega),λg a=>?_⟩;obtain⟨t,u,w⟩:=m g a;have p:=bN l g a;exact⟨t,u,λhm=>by rcases b g hm with e|e;exact w e;omega⟩
theorem Rq.TE(h:Rq ws w0 wr tb gm vp vt vup vnode vslot E U nn ss mm)(a:(wr.alloc o).grownBy w1 vup.ownBlock):aq w1 tb [vp,vt,.int .u32 0,.int .i32 1,.int .u32 0,vup,vnode,vslot,.slice (some ⟨gm,0,none⟩) E E] 136:=
 h.box.Rr (bE a) (λhm=>by have:=bN h.up tb (by simpa using hm);have:=h.lt;omega)
theorem Rq.up_add(h:Rq ws w0 wr tb gm vp vt vup vnode vslot E U nn ss mm){x:Value}(m:wr.ownsRow w0.heap.size 3 1 x (ws U.length).length ((ws U.length).map (Value.int .i64)))(n:∀g,x.ownBlock=some g->vup.ownBlock≠some g/\vnode.ownBlock≠some g/\vslot.ownBlock≠some g)(f:w1.ownsRow w0.heap.size 22 1 v' (U.length+1) (U++[x]))(d:(wr.alloc o).grownBy w1 vup.ownBlock)(l:v'.ownBlock=vup.ownBlock\/v'.ownBlock=some (wr.alloc o).heap.size):
 Rq ws w0 (w1.setCell (tb,5) v') tb gm vp vt v' vnode vslot E (U++[x]) nn ss mm:=by
 have s:=h.TE d;have j:=bE d;have u:=h.lt;have c:af [tb] w1 (w1.setCell (tb,5) v'):=aU;have b:∀g,v'.ownBlock=some g->vup.ownBlock=some g\/wr.heap.size<g:=λg a=>by
  rcases l with e|e
  ·exact .inl (e ▸ a)
  ·rw[e,bP] at a;have:wr.heap.size+1=g:=nE a;exact .inr aO
 refine{box:=s.set 5 v',Tc:=?_,up:=?_,Sh:=?_,S1:=?_,d1:=?_,d2:=?_,lt:=h.lt,Rr:=?_,ur:=?_}
 ·exact(h.Tc.Rr j (λhm=>by have:=bN h.up gm (by simpa using hm);omega)).other _ _ aQ
 ·have:=bR f c (λg a hm=>by have:=bN f g a;simp at hm;omega);simpa using this
 ·exact bR (bR h.Sh j (λg d hm=>(h.d1 g d).2 (by simpa using hm))) c (λg a hm=>by have:=bN h.Sh g a;simp at hm;omega)
 ·exact bR (bR h.S1 j (λg d hm=>h.d2 g d (by simpa using hm))) c (λg a hm=>by have:=bN h.S1 g a;simp at hm;omega)
 ·intro g a;refine⟨(h.d1 g a).1,λhm=>?_⟩;rcases b g hm with e|e
  ·exact(h.d1 g a).2 e
  ·have:=bN h.Sh g a;omega
 ·intro g a hm;rcases b g hm with e|e
  ·exact h.d2 g a e
  ·have:=bN h.S1 g a;omega
 ·exact(h.Rr.Rx j (λx m=>.inr (bN h.up x (by simpa using m)).1)).set _ _ (.inl aS)
 ·intro i hi;rw[FR,List.length_singleton] at hi;have p:∃v,(U++[x])[i]? =some v/\wr.ownsRow w0.heap.size 3 1 v (ws i).length ((ws i).map (Value.int .i64))/\∀g,v.ownBlock=some g->vup.ownBlock≠some g/\vnode.ownBlock≠some g/\vslot.ownBlock≠some g:=by
   by_cases e:i<U.length
   ·obtain⟨v,q,k⟩:=h.ur i e;exact⟨v,by rw[BJ e];exact q,k⟩
   ·have:i=U.length:=by omega
    subst this;exact⟨x,by simp,m,n⟩
  obtain⟨v,q,k,r⟩:=p;refine⟨v,q,bR (bR k j (λg d hm=>(r g d).1 (by simpa using hm))) c (λg a hm=>by have:=bN k g a;simp at hm;omega),λg a=>?_⟩;obtain⟨w,y,z⟩:=r g a;have t:=bN k g a;exact⟨λhm=>by rcases b g hm with e|e;exact w e;omega,y,z⟩
theorem Rq.UI(h:Rq ws w0 wr tb gm vp vt vup vnode vslot E U nn ss mm){j:Nat}{mm':Nat->Int}(h1:mm' j=x)(h2:∀k,k<E->k≠j->mm' k=mm k):Rq ws w0 (wr.setCell (gm,j) (.int .i64 x)) tb gm vp vt vup vnode vslot E U nn ss mm':=by
 have d:=h.lt;have b:af [gm] wr (wr.setCell (gm,j) (.int .i64 x)):=aU;have hm:=h.Tc.set j (.int .i64 x);rw[rS h1 h2] at hm;exact{box:=h.box.Rr b aQ,Tc:=hm,up:=bR h.up b (λg a hm=>by have:=bN h.up g a;simp at hm;omega),Sh:=bR h.Sh b (λg a hm=>by have:=bN h.Sh g a;simp at hm;omega),S1:=bR h.S1 b (λg a hm=>by have:=bN h.S1 g a;simp at hm;omega),d1:=h.d1,d2:=h.d2,lt:=h.lt,Rr:=h.Rr.set _ _ (.inl aS),ur:=λi hi=>(by obtain⟨v,e,c,f⟩:=h.ur i hi;exact⟨v,e,bR c b (λg a hm=>by have:=bN c g a;simp at hm;omega),f⟩)}
theorem Rq.fr(h:Rq ws w0 wr tb gm vp vt vup vnode vslot E U nn ss mm){Z:List Nat}(b:af Z wr w1)(c:∀z∈Z,wr.heap.size<=z):Rq ws w0 w1 tb gm vp vt vup vnode vslot E U nn ss mm:=by
 have e:=h.lt;have f:=h.Rr.size;exact{box:=h.box.Rr b (λhm=>by have:=c _ hm;omega),Tc:=h.Tc.Rr b (λhm=>by have:=c _ hm;omega),up:=bR h.up b (λg a hm=>by have:=(bN h.up g a).2;have:=c _ hm;omega),Sh:=bR h.Sh b (λg a hm=>by have:=(bN h.Sh g a).2;have:=c _ hm;omega),S1:=bR h.S1 b (λg a hm=>by have:=(bN h.S1 g a).2;have:=c _ hm;omega),d1:=h.d1,d2:=h.d2,lt:=h.lt,Rr:=h.Rr.Rx b (λx j=>.inr (by have:=c x j;omega)),ur:=λi hi=>(by obtain⟨v,k,d,l⟩:=h.ur i hi;exact⟨v,k,bR d b (λg a hm=>by have:=(bN d g a).2;have:=c _ hm;omega),l⟩)}
end
variable{r:List Int}
theorem tU{n f q:Nat}{a:Int}(hn:n<f)(h:zs++dZ P (f - n) (q:Int)=r)(e:a=P[q]?.getD 0):(zs++[(q:Int)])++dZ P (f - (n+1)) a=r:=by
 obtain⟨g,c⟩:∃g,f - n=g+1:=⟨f - n - 1,by omega⟩
 rw[c] at h;have b:f - (n+1)=g:=by omega
 rw[b,e,<-h,Je];congr 1
theorem wM{n f:Nat}(a:¬0<=y)(h:zs++dZ P (f - n) y=r):zs=r:=by
 have:dZ P (f - n) y=[]:=by
  cases f - n with
  |zero=>rfl
  |succ g=>show(if y<0 then[] else _)=_;rw[ad aO]
 rw[this,List.append_nil] at h;exact h
variable{T:TypeId}
theorem qG{s:Nat}(h:w.ownsRow b T s v k xs)(c:a<=b):w.ownsRow a T s v k xs:=by
 obtain⟨h1,h2|⟨g,cap,cur,hv,d,r⟩⟩:=h
 ·exact⟨h1,.inl h2⟩
 ·exact⟨h1,.inr ⟨g,cap,cur,hv,by omega,r⟩⟩
theorem GW{tb gp gt:Nat}{vp vt:Value}{T:List Int}(hs:ea P T)(hp:IR w gp vp P)(ht:IR w gt vt T)(qb:aq w tb [vp,vt,.int .u32 0,.int .i32 1,.int .u32 0,.slice none 0 0,.slice none 0 0,.slice none 0 0,.slice none 0 0] 136):
 Calls prog 110 #[some tb] w λe w'=>e= .returned (.tuple #[])/\∃J B A gm U w0,U.length=T.length/\Rq (λi=>dZ P 40 (T[i]?.getD 0)) w0 w' tb gm vp vt J B A (tE P).length U (T.map λx=>(mS P x:Int)) (eH T T.length) (λv=>(T.count ((tE P)[v]?.getD 0):Int))/\w.heap.size<=w0.heap.size/\w.heap.size<=gm/\af [tb] w w'/\IR w' gp vp P/\IR w' gt vt T:=by
 have hs1:=hs.size;obtain⟨s1,s2,s3,s4⟩:=hs1;have HL:=aH (λ(W:World) (hf:af [] w W)=>Ar (hp.Rr hf aS).row (ht.Rr hf aS).row hs);have hntb:tb≠gp/\tb≠gt:=by
  obtain⟨_,_,_,h1,_⟩:=hp;obtain⟨_,_,_,h2,_⟩:=ht;exact⟨qb.differ h1 aJ,qb.differ h2 aJ⟩
 obtain⟨j0,ja,jb,jc,jd⟩:=mN nY;have o:=aH (ae ja (ae jb (ae jc jd)));obtain⟨i0,ia,ib,ic,id_⟩:=mN EU;have L:=aH (ae ia (ae ib (ae ic id_)));have mk:=Eg (tE P).length (by have:=ki P;omega);have c0:=qb.cell (i:=0) rfl;have c1:=qb.cell (i:=1) rfl;have hEl:=ki P;have HB:=aH qb;have HP:=aH hp;have HT:=aH ht;have Y:=aH hs;have HNT:=aH hntb;have hlt0:=qb.lt;clear hp ht qb hs hntb ja jb jc jd ia ib ic id_;obtain⟨capp,curp,evp, -⟩:=id HP.o;obtain⟨capt,curt,evt, -⟩:=id HT.o;subst evp evt;go_enter func110,ntmps110;go_wp2_with fail;refine(HL.o _ aF).mono ?_;rintro e w1 ⟨u,rfl,hO,hF⟩;have hEne:tE P≠[]:=λh0=>by
  have hx:T[0]?.getD 0∈T:=by
   rw[eB aO];exact lB aO
  have:=kT Y.o hx;rw[h0] at this;simp at this
 obtain⟨ge,hge,hE, -⟩:=IR.SN hEne hO;obtain⟨cape,cure,eu, -⟩:=id hE;subst eu;have hsz1:=hF.size;have HF1:=aH hF;have HE1:=aH hE;have hB1:=HB.o.Rr hF aS;have hA:=hB1.alloc (.cells (iD (tE P).length λ_=>0).toArray 3);have k8:=hA.cell (i:=8) rfl;have z8:=hA.frozen;have hS:=hA.set 8 (.slice (some ⟨w1.heap.size,0,none⟩) (tE P).length (tE P).length);have k1:=hS.cell (i:=1) rfl;have hM:=(aq.new w1 (iD (tE P).length λ_=>0).toArray 3).other ⟨tb,8,none⟩ (.slice (some ⟨w1.heap.size,0,none⟩) (tE P).length (tE P).length) aQ;have hF2:af [tb] w1 ((w1.alloc (.cells (iD (tE P).length λ_=>0).toArray 3)).setCell (tb,8) (.slice (some ⟨w1.heap.size,0,none⟩) (tE P).length (tE P).length)):=(aF.alloc _).set _ _ (.inl aS);have hsz2:((w1.alloc (.cells (iD (tE P).length λ_=>0).toArray 3)).setCell (tb,8) (.slice (some ⟨w1.heap.size,0,none⟩) (tE P).length (tE P).length)).heap.size=w1.heap.size+1:=by simp[World.setCell]
 have HS:=aH (ae hS (ae hM (ae hF2 hsz2)));have hgelt:=hE.lt;clear hO hF hE hB1 hA hS hM hF2 hsz2;go_wp2_with fail;generalize(w1.alloc (.cells (iD (tE P).length λ_=>0).toArray 3)).setCell (tb,8) (.slice (some ⟨w1.heap.size,0,none⟩) (tE P).length (tE P).length)=wL at*;obtain⟨gm,hgm⟩:∃gm,gm=w1.heap.size:=⟨_,rfl⟩
 rw[<-hgm];rw[<-hgm] at HS;have hszL:gm<wL.heap.size:=by have:=HS.o.2.2.2;omega
 have hgm1:w1.heap.size<=gm:=by omega
 clear hgm;have HTL:=aH ((HT.o.Rr HF1.o aS).Rr HS.o.2.2.1 (by have:=HNT.o.2;simp;omega));have HPL:=aH ((HP.o.Rr HF1.o aS).Rr HS.o.2.2.1 (by have:=HNT.o.1;simp;omega));have HEL:=aH (HE1.o.Rr HS.o.2.2.1 aQ);clear HB HL HE1 k8 z8 k1 c0 c1;go_loopw[25] (λiv wr=>∃(k:Nat)(J B A:Value)(U:List Value),iv= .int .i64 k/\k<=T.length/\U.length=k/\Rq (λi=>dZ P 40 (T[i]?.getD 0)) wL wr tb gm (.slice (some ⟨gp,0,none⟩) P.length capp) (.slice (some ⟨gt,0,none⟩) T.length capt) J B A (tE P).length U ((T.take k).map λx=>(mS P x:Int)) (eH T k) (λv=>((T.take k).count ((tE P)[v]?.getD 0):Int))) (λiv _=>T.length - (intOf iv).toNat)
 case atStart=>
  refine⟨0,_,_,_,[],rfl,fA _,rfl,{box:=HS.o.1,Tc:=?_,up:=sL _ _ _ _,Sh:=sL _ _ _ _,S1:=sL _ _ _ _,d1:=λg hg=>by simp[Value.ownBlock] at hg,d2:=λg hg=>by simp[Value.ownBlock] at hg,lt:=by omega,Rr:=aF,ur:=λi hi=>by simp at hi}⟩;have:=HS.o.2.1;simpa using this
 case round=>
  obtain⟨k,J,B,A,U,rfl,hk,hU,hFS⟩:=hrel;have hsz3:=hFS.Rr.size;have hng:gt∉[tb,gm]/\gp∉[tb,gm]/\ge∉[tb,gm]:=by
   have a1:=HT.o.lt;have a2:=HP.o.lt;have a3:=HNT.o;simp;omega
  have X:=aH hng;obtain⟨m,hmm⟩:∃m:Nat->Int,m=λv=>((T.take k).count ((tE P)[v]?.getD 0):Int):=⟨_,rfl⟩
  rw[<-hmm] at hFS;have HMM:=aH hmm;have G:=aH hFS;clear hng hFS hmm;by_cases H:k<T.length
  ·have l1:(k:Int)<T.length:=by omega
   obtain⟨x,hx⟩:∃x,x=T[k]?.getD 0:=⟨_,rfl⟩
   have hxm:x∈T:=by rw[hx,eB H];exact lB H
   have hxE:=kT Y.o hxm;have hTr:=HTL.o.Rr G.o.Rr X.o.1;have cT:wr.cell? (gt,k)=some (.int .i64 x):=by
    obtain⟨_,_,_,hh,_,hc⟩:=hTr;rw[hx];exact hh.cell (hc k H)
   have HIX:=aH (v7 (HEL.o.Rr G.o.Rr X.o.2.2).row aO hxE);obtain⟨nd,hnd⟩:∃nd,nd=(tE P).idxOf x:=⟨_,rfl⟩
   have s:nd<(tE P).length:=by rw[hnd];exact qm.2 hxE
   have hndE:(tE P)[nd]?.getD 0=x:=by rw[hnd,eB (qm.2 hxE),BO,BN (qm.2 hxE)]
   rw[<-hnd] at HIX;have HX:=aH hx;have V:=aH (ae hnd hndE);have HXM:=aH (ae hxm hxE);have c6:=G.o.box.cell (i:=6) rfl;have hml:((T.take k).map λx=>(mS P x:Int)).length=k:=by simp;omega
   have hno:=G.o.Sh;rw[hml] at hno;have HNO:=aH hno;clear hno hTr hxm hxE hnd hndE hx;go_wp2_with fail;refine gF HIX.o ?_;rintro w' rfl;have hkk:k<=32:=by omega
   go_wp2_with(at_builtin;go_must(refine wpList_append_own_at _ rfl _ _ 22 rfl wL.heap.size 3 j0 (.int .i64 0) 1 8 underlying22 o.o.1 o.o.2.1 o.o.2.2.1 o.o.2.2.2 rfl aJ B k _ rfl (HNO.o.alloc _) ⟨wr.heap.size,0,none⟩ 1 1 [nd] rfl rfl (cell_one_new _ _ _) aC aM aO (by rw[bP];have:=G.o.Rr.size;omega) ?_;intro v2 wA c b _ r;obtain⟨va,vl,vc,rfl⟩:=dm c;have d:=G.o.TH b;have bc:=d.cell (i:=6) rfl;have bz:=d.frozen;have HA:=aH (G.o.Ue (x:=(nd:Int)) (by rw[hml];exact c) b r);clear c b r d))
   have hFS2:=HA.o;rw[show((T.take k).map λx=>(mS P x:Int))++[(nd:Int)]=((T.take (k+1)).map λx=>(mS P x:Int)) from by
    rw[FU,xu,eB H];have:=HX.o;rw[eB H] at this;simp at this;simp[mS,<-this,<-V.o.1]] at hFS2
   have HF2:=aH hFS2;clear hFS2 HA bc bz c6 cT HNO HIX G;generalize wA.setCell (tb,6) (.slice va vl vc)=W3 at*;have p:=aH (HF2.o.fr (Z:=[]) ((af.refl [] W3).Rs) aS);have hmn0:m nd=((T.take k).count x:Int):=by rw[HMM.o];dsimp only;rw[V.o.2]
   have S:=aH hmn0;clear hmn0;have c7:=p.o.box.cell (i:=7) rfl;have c8:=p.o.box.cell (i:=8) rfl;have cm:=p.o.Tc.cell (ew m s);have hne:Nonempty (HW (λM=>M.cell? (tb,8)=some (.slice (some ⟨gm,0,none⟩) (tE P).length (tE P).length)/\M.cell? (gm,nd)=some (.int .i64 (m nd)))):=⟨⟨_,c8,cm⟩⟩
   have hz0:∀q:HW (λM=>M.cell? (tb,8)=some (.slice (some ⟨gm,0,none⟩) (tE P).length (tE P).length)/\M.cell? (gm,nd)=some (.int .i64 (m nd))),q.w.cell? (tb,8)=some (.slice (some ⟨gm,0,none⟩) (tE P).length (tE P).length):=λq=>q.h.1;have hz1:∀q:HW (λM=>M.cell? (tb,8)=some (.slice (some ⟨gm,0,none⟩) (tE P).length (tE P).length)/\M.cell? (gm,nd)=some (.int .i64 (m nd))),q.w.cell? (gm,nd)=some (.int .i64 (m nd)):=λq=>q.h.2;have l2:(nd:Int)<(tE P).length:=by omega
   have hsl:(eH T k).length=k:=by unfold eH;simp
   have hso:=p.o.S1;rw[hsl] at hso;have HSO:=aH hso;have CC:=aH (ae c8 cm);clear hso HF2 c8 cm;refine aG (λM=>M.cell? (tb,8)=some (.slice (some ⟨gm,0,none⟩) (tE P).length (tE P).length)/\M.cell? (gm,nd)=some (.int .i64 (m nd))) ?_;generalize W3.drew=W4 at*;refine eQ (fuel:=6) [0,1,2,3,5,6,7,8,9,10,11] rfl CC.o ?_;refine rH (i:=4) (j:=12) (fuel:=5) rfl rfl aK ?_ ?_
   ·go_wp2_with fail;refine ah ⟨CC.o,?_⟩;refine aL 12 (fuel:=4) rfl ?_;go_wp2_with fail;refine ah ⟨⟨((af.refl [] W4).alloc (.cells #[(m nd:Int)] 3)).cell CC.o.1 aS,((af.refl [] W4).alloc (.cells #[(m nd:Int)] 3)).cell CC.o.2 aS⟩,?_⟩;refine aL 13 (fuel:=3) rfl ?_;go_wp2_with(at_builtin;go_must(refine wpList_append_own_at _ rfl _ _ 22 rfl wL.heap.size 3 j0 (.int .i64 0) 1 8 underlying22 o.o.1 o.o.2.1 o.o.2.2.1 o.o.2.2.2 rfl aJ A k _ rfl (HSO.o.alloc _) ⟨W4.heap.size,0,none⟩ 1 1 [(m nd:Int)] rfl rfl (cell_one_new _ _ _) aC aM aO (by rw[bP];have:=p.o.Rr.size;omega) ?_;intro v3 wB c b _ r;obtain⟨xa,xl,xc,rfl⟩:=dm c;have d:=p.o.To b;have bc:=d.cell (i:=7) rfl;have b8:=d.cell (i:=8) rfl;have bz:=d.frozen;have bm:=(p.o.Tc.Rr (bE b) (λhm=>by have h8:=bN p.o.S1 gm (by simpa using hm);have h9:=p.o.lt;omega)).cell (ew m s);have F:=aH (p.o.TL (x:=m nd) (by rw[hsl];exact c) b r);have CB:=aH (ae b8 bm);clear c b r d b8 bm))
    refine ah ⟨CB.o,?_⟩;refine eQ (fuel:=1) [14,15] rfl CB.o ?_;refine aL 16 (fuel:=0) rfl ?_;go_wp2_with fail;refine ah ⟨⟨F.o.box.cell (i:=8) rfl,F.o.Tc.cell (ew m s)⟩,?_⟩;refine aN ?_;have E:=F.o;rw[show eH T k++[m nd]=eH T (k+1) from by rw[pZ,<-HX.o,S.o]] at E;have C:=aH E;clear E F CB bc bz hne hz0 hz1 c7 HSO p;generalize wB.setCell (tb,7) (.slice xa xl xc)=W5 at*;have c8:=C.o.box.cell (i:=8) rfl;have cm:=C.o.Tc.cell (ew m s);have cz:=C.o.Tc.frozen;have hmb:0<=m nd/\m nd<=32:=by
     rw[S.o];have:=FP (a:=x) (l:=T.take k);simp at this;omega
    have hj1:((T.take (k+1)).count ((tE P)[nd]?.getD 0):Int)=m nd+1:=by rw[V.o.2,S.o,kU H,ad HX.o.symm]
    have hj2:∀v,v<(tE P).length->v≠nd->((T.take (k+1)).count ((tE P)[v]?.getD 0):Int)=m v:=λv hv hne'=>by
     have e:m v=((T.take k).count ((tE P)[v]?.getD 0):Int):=by rw[HMM.o]
     rw[e,kU H,ac (λe=>hne' (Fe hv s (by rw[V.o.2,HX.o];exact e.symm)))];omega
    have t:=aH (C.o.UI (j:=nd) (x:=m nd+1) (mm':=λv=>((T.take (k+1)).count ((tE P)[v]?.getD 0):Int)) hj1 hj2);clear hj1 hj2;have Q:0<=x/\x<(P.length:Int):=by
     have:=Y.o.ends x HXM.o.1;unfold ee at this;simp at this;exact⟨this.1.1,this.1.2⟩
    go_wp2_with fail;generalize W5.setCell (gm,nd) (.int .i64 (m nd+1))=W6 at*;clear c8 cm cz hmb C CC s l2 hsl;have HTR:=aH Y.o.tree;go_loopw[6,7] (λuv vv M=>∃(y:Int)(n:Nat)(zs:List Int),vv= .int .i64 y/\(-1<=y/\y<(P.length:Int))/\(n:Int)+(y+1)<=40/\zs.length=n/\Hy (zs++dZ P (40 - n) y=dZ P 40 x)/\M.ownsRow W6.heap.size 3 1 uv n (zs.map (Value.int .i64))/\af [] W6 M) (λ_ vv _=>(intOf vv+1).toNat)
    case atStart=>exact⟨x,0,[],rfl,by omega,by omega,rfl,aH rfl,sL _ _ _ _,aF⟩
    case round=>
     obtain⟨y,n,zs,rfl,hy,hny,hzl,HZ,hO,hF⟩:=hrel;have HZL:=aH hzl;clear hzl;have HO:=aH hO;have HF:=aH hF;have hszx:=hF.size;obtain⟨ua,ul,uc,rfl⟩:=dm hO;clear hO hF;by_cases h0:0<=y
     ·obtain⟨q,rfl⟩:=ix h0;have hq:q<P.length:=by omega
      have dg:decide ((0:Int)<=(q:Int))=true:=by simp
      have lq:(q:Int)<P.length:=by omega
      obtain⟨y2,I⟩:∃z,z=P[q]?.getD 0:=⟨_,rfl⟩
      have htr: -1<=y2/\y2<(q:Int):=by
       obtain⟨t0,t1⟩:=HTR.o;rw[I];by_cases hq0:q=0
       ·subst hq0;rw[t0];omega
       ·have:=t1 q aO hq;omega
      have HZ2:=aH (tU (n:=n) (f:=40) aO HZ.o I);have HY2:=aH I;clear hy h0 I;go_wp2_with(at_builtin;go_must(refine wpList_append_own_at _ rfl _ _ 22 rfl W6.heap.size 3 j0 (.int .i64 0) 1 8 underlying22 o.o.1 o.o.2.1 o.o.2.2.1 o.o.2.2.2 rfl aJ (.slice ua ul uc) n _ rfl (HO.o.alloc _) ⟨wr.heap.size,0,none⟩ 1 1 [q] rfl rfl (cell_one_new _ _ _) aC aM aO (by rw[bP];omega) ?_;intro v4 wC c b _ r;have HO2:=aH (by have h9:=c;rw[show zs.map (Value.int .i64)++[Value.int .i64 (q:Int)]=(zs++[(q:Int)]).map (Value.int .i64) from by simp] at h9;exact h9);have N:=aH (HF.o.Rx (bE b) (λz hz=>.inr (bN HO.o z (by simpa using hz)).1));have p0:=(t.o.fr N.o aS).box.cell (i:=0) rfl;have pq:=nm (HPL.o.Rr (t.o.fr N.o aS).Rr X.o.2.1) hq;rw[<-HY2.o] at pq;clear c b r))
      go_roundw
      case rel=>exact⟨_,n+1,zs++[(q:Int)],rfl,by omega,by omega,by rw[FR,HZL.o];rfl,HZ2,HO2.o,N.o⟩
      case measure=>simp[intOf];omega
     ·have dg:decide ((0:Int)<=y)=false:=by simpa using h0
      have D:=aH (t.o.fr HF.o aS);have c5:=D.o.box.cell (i:=5) rfl;have O:=D.o.up;rw[hU] at O;have HU8:=aH O;have hzz:=wM (n:=n) (f:=40) h0 HZ.o;have Q:wr.ownsRow wL.heap.size 3 1 (.slice ua ul uc) (dZ P 40 (T[U.length]?.getD 0)).length ((dZ P 40 (T[U.length]?.getD 0)).map (Value.int .i64)):=by
       rw[hU,<-HX.o,<-hzz,HZL.o];exact qG HO.o t.o.Rr.size
      have hxn:∀g,(Value.slice ua ul uc).ownBlock=some g->J.ownBlock≠some g/\(Value.slice va vl vc).ownBlock≠some g/\(Value.slice xa xl xc).ownBlock≠some g:=λg hg=>by
       have h1:=(bN HO.o g hg).1;exact⟨λhm=>by have h2:=(bN t.o.up g hm).2;omega,λhm=>by have h2:=(bN t.o.Sh g hm).2;omega,λhm=>by have h2:=(bN t.o.S1 g hm).2;omega⟩
      have HXR:=aH (ae Q hxn);clear O Q hxn hzz;go_wp2_with(at_builtin;go_must(refine wpList_append_own_at _ rfl _ _ 134 rfl wL.heap.size 22 i0 (.slice none 0 0) 1 24 underlying134 L.o.1 L.o.2.1 L.o.2.2.1 L.o.2.2.2 rfl aJ J k _ rfl (HU8.o.alloc _) ⟨wr.heap.size,0,none⟩ 1 1 [.slice ua ul uc] rfl rfl (cell_one_new _ _ _) aC aM aO (by rw[bP];have:=D.o.Rr.size;omega) ?_;intro v5 wD c b _ r;obtain⟨ya,yl,yc,rfl⟩:=dm c;have d:=D.o.TE b;have bc:=d.cell (i:=5) rfl;have bz:=d.frozen;have HA:=aH (D.o.up_add (x:=.slice ua ul uc) HXR.o.1 HXR.o.2 (by rw[hU];exact c) b r);clear c b r d))
      go_roundw
      case rel=>exact⟨k+1,_,_,_,_,by go_num,by omega,by simp[hU],HA.o⟩
      case measure=>simp[intOf];omega
   ·go_wp2_with fail;refine ah ⟨⟨((af.refl [] W4).alloc (.cells #[(m nd:Int)] 3)).cell CC.o.1 aS,((af.refl [] W4).alloc (.cells #[(m nd:Int)] 3)).cell CC.o.2 aS⟩,?_⟩;have c7b:=((af.refl [] W4).alloc (.cells #[(m nd:Int)] 3)).cell c7 aS;refine aL 4 (fuel:=4) rfl ?_;go_wp2_with fail;refine ah ⟨⟨((af.refl [] W4).alloc (.cells #[(m nd:Int)] 3)).cell CC.o.1 aS,((af.refl [] W4).alloc (.cells #[(m nd:Int)] 3)).cell CC.o.2 aS⟩,?_⟩;clear c7b;refine aL 13 (fuel:=3) rfl ?_;go_wp2_with(at_builtin;go_must(refine wpList_append_own_at _ rfl _ _ 22 rfl wL.heap.size 3 j0 (.int .i64 0) 1 8 underlying22 o.o.1 o.o.2.1 o.o.2.2.1 o.o.2.2.2 rfl aJ A k _ rfl (HSO.o.alloc _) ⟨W4.heap.size,0,none⟩ 1 1 [(m nd:Int)] rfl rfl (cell_one_new _ _ _) aC aM aO (by rw[bP];have:=p.o.Rr.size;omega) ?_;intro v3 wB c b _ r;obtain⟨xa,xl,xc,rfl⟩:=dm c;have d:=p.o.To b;have bc:=d.cell (i:=7) rfl;have b8:=d.cell (i:=8) rfl;have bz:=d.frozen;have bm:=(p.o.Tc.Rr (bE b) (λhm=>by have h8:=bN p.o.S1 gm (by simpa using hm);have h9:=p.o.lt;omega)).cell (ew m s);have F:=aH (p.o.TL (x:=m nd) (by rw[hsl];exact c) b r);have CB:=aH (ae b8 bm);clear c b r d b8 bm))
    refine ah ⟨CB.o,?_⟩;refine eQ (fuel:=1) [14,15] rfl CB.o ?_;refine aL 16 (fuel:=0) rfl ?_;go_wp2_with fail;refine ah ⟨⟨F.o.box.cell (i:=8) rfl,F.o.Tc.cell (ew m s)⟩,?_⟩;refine aN ?_;have E:=F.o;rw[show eH T k++[m nd]=eH T (k+1) from by rw[pZ,<-HX.o,S.o]] at E;have C:=aH E;clear E F CB bc bz hne hz0 hz1 c7 HSO p;generalize wB.setCell (tb,7) (.slice xa xl xc)=W5 at*;have c8:=C.o.box.cell (i:=8) rfl;have cm:=C.o.Tc.cell (ew m s);have cz:=C.o.Tc.frozen;have hmb:0<=m nd/\m nd<=32:=by
     rw[S.o];have:=FP (a:=x) (l:=T.take k);simp at this;omega
    have hj1:((T.take (k+1)).count ((tE P)[nd]?.getD 0):Int)=m nd+1:=by rw[V.o.2,S.o,kU H,ad HX.o.symm]
    have hj2:∀v,v<(tE P).length->v≠nd->((T.take (k+1)).count ((tE P)[v]?.getD 0):Int)=m v:=λv hv hne'=>by
     have e:m v=((T.take k).count ((tE P)[v]?.getD 0):Int):=by rw[HMM.o]
     rw[e,kU H,ac (λe=>hne' (Fe hv s (by rw[V.o.2,HX.o];exact e.symm)))];omega
    have t:=aH (C.o.UI (j:=nd) (x:=m nd+1) (mm':=λv=>((T.take (k+1)).count ((tE P)[v]?.getD 0):Int)) hj1 hj2);clear hj1 hj2;have Q:0<=x/\x<(P.length:Int):=by
     have:=Y.o.ends x HXM.o.1;unfold ee at this;simp at this;exact⟨this.1.1,this.1.2⟩
    go_wp2_with fail;generalize W5.setCell (gm,nd) (.int .i64 (m nd+1))=W6 at*;clear c8 cm cz hmb C CC s l2 hsl;have HTR:=aH Y.o.tree;go_loopw[6,7] (λuv vv M=>∃(y:Int)(n:Nat)(zs:List Int),vv= .int .i64 y/\(-1<=y/\y<(P.length:Int))/\(n:Int)+(y+1)<=40/\zs.length=n/\Hy (zs++dZ P (40 - n) y=dZ P 40 x)/\M.ownsRow W6.heap.size 3 1 uv n (zs.map (Value.int .i64))/\af [] W6 M) (λ_ vv _=>(intOf vv+1).toNat)
    case atStart=>exact⟨x,0,[],rfl,by omega,by omega,rfl,aH rfl,sL _ _ _ _,aF⟩
    case round=>
     obtain⟨y,n,zs,rfl,hy,hny,hzl,HZ,hO,hF⟩:=hrel;have HZL:=aH hzl;clear hzl;have HO:=aH hO;have HF:=aH hF;have hszx:=hF.size;obtain⟨ua,ul,uc,rfl⟩:=dm hO;clear hO hF;by_cases h0:0<=y
     ·obtain⟨q,rfl⟩:=ix h0;have hq:q<P.length:=by omega
      have dg:decide ((0:Int)<=(q:Int))=true:=by simp
      have lq:(q:Int)<P.length:=by omega
      obtain⟨y2,I⟩:∃z,z=P[q]?.getD 0:=⟨_,rfl⟩
      have htr: -1<=y2/\y2<(q:Int):=by
       obtain⟨t0,t1⟩:=HTR.o;rw[I];by_cases hq0:q=0
       ·subst hq0;rw[t0];omega
       ·have:=t1 q aO hq;omega
      have HZ2:=aH (tU (n:=n) (f:=40) aO HZ.o I);have HY2:=aH I;clear hy h0 I;go_wp2_with(at_builtin;go_must(refine wpList_append_own_at _ rfl _ _ 22 rfl W6.heap.size 3 j0 (.int .i64 0) 1 8 underlying22 o.o.1 o.o.2.1 o.o.2.2.1 o.o.2.2.2 rfl aJ (.slice ua ul uc) n _ rfl (HO.o.alloc _) ⟨wr.heap.size,0,none⟩ 1 1 [q] rfl rfl (cell_one_new _ _ _) aC aM aO (by rw[bP];omega) ?_;intro v4 wC c b _ r;have HO2:=aH (by have h9:=c;rw[show zs.map (Value.int .i64)++[Value.int .i64 (q:Int)]=(zs++[(q:Int)]).map (Value.int .i64) from by simp] at h9;exact h9);have N:=aH (HF.o.Rx (bE b) (λz hz=>.inr (bN HO.o z (by simpa using hz)).1));have p0:=(t.o.fr N.o aS).box.cell (i:=0) rfl;have pq:=nm (HPL.o.Rr (t.o.fr N.o aS).Rr X.o.2.1) hq;rw[<-HY2.o] at pq;clear c b r))
      go_roundw
      case rel=>exact⟨_,n+1,zs++[(q:Int)],rfl,by omega,by omega,by rw[FR,HZL.o];rfl,HZ2,HO2.o,N.o⟩
      case measure=>simp[intOf];omega
     ·have dg:decide ((0:Int)<=y)=false:=by simpa using h0
      have D:=aH (t.o.fr HF.o aS);have c5:=D.o.box.cell (i:=5) rfl;have O:=D.o.up;rw[hU] at O;have HU8:=aH O;have hzz:=wM (n:=n) (f:=40) h0 HZ.o;have Q:wr.ownsRow wL.heap.size 3 1 (.slice ua ul uc) (dZ P 40 (T[U.length]?.getD 0)).length ((dZ P 40 (T[U.length]?.getD 0)).map (Value.int .i64)):=by
       rw[hU,<-HX.o,<-hzz,HZL.o];exact qG HO.o t.o.Rr.size
      have hxn:∀g,(Value.slice ua ul uc).ownBlock=some g->J.ownBlock≠some g/\(Value.slice va vl vc).ownBlock≠some g/\(Value.slice xa xl xc).ownBlock≠some g:=λg hg=>by
       have h1:=(bN HO.o g hg).1;exact⟨λhm=>by have h2:=(bN t.o.up g hm).2;omega,λhm=>by have h2:=(bN t.o.Sh g hm).2;omega,λhm=>by have h2:=(bN t.o.S1 g hm).2;omega⟩
      have HXR:=aH (ae Q hxn);clear O Q hxn hzz;go_wp2_with(at_builtin;go_must(refine wpList_append_own_at _ rfl _ _ 134 rfl wL.heap.size 22 i0 (.slice none 0 0) 1 24 underlying134 L.o.1 L.o.2.1 L.o.2.2.1 L.o.2.2.2 rfl aJ J k _ rfl (HU8.o.alloc _) ⟨wr.heap.size,0,none⟩ 1 1 [.slice ua ul uc] rfl rfl (cell_one_new _ _ _) aC aM aO (by rw[bP];have:=D.o.Rr.size;omega) ?_;intro v5 wD c b _ r;obtain⟨ya,yl,yc,rfl⟩:=dm c;have d:=D.o.TE b;have bc:=d.cell (i:=5) rfl;have bz:=d.frozen;have HA:=aH (D.o.up_add (x:=.slice ua ul uc) HXR.o.1 HXR.o.2 (by rw[hU];exact c) b r);clear c b r d))
      go_roundw
      case rel=>exact⟨k+1,_,_,_,_,by go_num,by omega,by simp[hU],HA.o⟩
      case measure=>simp[intOf];omega
  ·have hke:k=T.length:=by omega
   subst hke;have R:=G.o;rw[HMM.o] at R;simp only[Jf] at R;have HF9:=aH R;have HFW:=aH (HF1.o.mono (S':=[tb]) aS |>.trans HS.o.2.2.1);clear R;go_wp2_with fail;go_end0;have hfr:=HF9.o.Rr;have hfw:af [tb] w wr:=HFW.o.Rx hfr (λz hz=>by
    simp at hz;rcases hz with e|e
    ·exact .inl (by simp[e])
    ·exact .inr aO)
   refine⟨rfl,J,B,A,gm,U,wL,hU,HF9.o,by omega,by omega,hfw,HPL.o.Rr hfr X.o.2.1,HTL.o.Rr hfr X.o.1⟩
def dM(P:List Int)(q:Int)(k:Nat):List Int:=((List.range k).filter λi=>P[i]?.getD 0==q).map λi:Nat=>(i:Int)
theorem vV(P:List Int)(q:Int)(k:Nat):dM P q (k+1)=if(P[k]?.getD 0==q)=true then dM P q k++[(k:Int)] else dM P q k:=by
 unfold dM;rw[xr,Jb,xu];cases h:(P[k]?.getD 0==q)<;>simp[h]
theorem ni(P:List Int)(q:Int)(k:Nat):(dM P q k).length<=k:=by unfold dM;rw[kZ];exact dv (FN _ _) aS
section
variable{w:World}{b1:Nat}{v u:Value}{P:List Int}
theorem rL(w:World)(Q:aZ w b1 v P)(hn:P.length<=32)(q:Int):
 Calls prog 89 #[.agg #[v,u],q] w λe w'=>∃x,e= .returned x/\oA w' w.heap.size x (dM P q P.length)/\af [] w w':=by
 obtain⟨i0,hi,D,E,F⟩:=mN nY;have HI:=aH (ae hi (ae D (ae E F)));have HX:=aH Q;obtain⟨a,cap,rfl, -,z⟩:=Q;have H:=aH z;clear hi D E F z;go_enter func89,ntmps89;go_wp2_with fail;have HB:=aH (aq.new w #[.slice a P.length cap,u] 24);have I:=aH ((af.refl [] w).alloc (.cells #[.slice a P.length cap,u] 24));have X:=HB.o.lt;have L:=I.o.size;generalize hW:w.alloc _=w1 at*;clear hW;go_loopw[5,11] (λvv i wr=>∃(k:Nat)(v:Value),v=vv/\i= .int .i64 k/\k<=P.length/\oA wr w1.heap.size v (dM P q k)/\af [] w1 wr) (λ_ i _=>P.length - (intOf i).toNat)
 case atStart=>exact⟨0,_,rfl,rfl,fA _,oA.nil _ _,aF⟩
 case round=>
  obtain⟨k,v,rfl,rfl,hk,y,r⟩:=hrel;have O:=r.size;by_cases m:k<P.length
  ·have U:decide ((k:Int)<P.length)=true:=by simpa using m
   have J:decide (k<P.length)=true:=by simpa using m
   have e1:decide ((k:Int)<0)=false:=aB;have e2:decide ((P.length:Int)<=k)=false:=aB;have V:decide (P.length<=k)=false:=aB;obtain⟨g,off,hg,rfl,f⟩:=H.o aO;have M:=f k m;have Y:=(I.o.trans r).cell M aS;have s:=aH y;have d:=aH r;have G:=aH (tR y);have p:=aH (vV P q k);generalize P[k]?.getD 0=Z at*;clear y r M f;cases hd:(Z==q) with
   |false=>
    rw[hd] at p;go_wp2_with fail;go_roundw
    case rel=>exact⟨k+1,_,rfl,by go_num,by omega,by rw[p.o];exact s.o,d.o⟩
    case measure=>simp[intOf];omega
   |true=>
    rw[hd] at p;have N:=ni P q k;have t:=aH (s.o.at (n:=(dM P q k).length) rfl);generalize A:(dM P q k).length=ll at*;go_wp2_with(at_builtin;refine sK _ rfl _ _ 22 rfl w1.heap.size 3 i0 (.int .i64 0) 1 8 underlying22 HI.o.1 HI.o.2.1 HI.o.2.2.1 HI.o.2.2.2 rfl aJ _ _ _ rfl (t.o.alloc _) ⟨wr.heap.size,0,none⟩ 1 1 [k] rfl rfl (cell_one_new _ _ _) ?c2 ?c3 ?c4 ?c5 ?_)
    case c2=>simp[Value.oneCell']
    case c3=>unfold maxLen;omega
    case c4=>omega
    case c5=>have:=d.o.size;omega
    intro v' w2 o l _;obtain⟨g1,g2⟩:=wK A o l G.o d.o (ba _);have R:=aH (show oA w2 w1.heap.size v' (dM P q (k+1)) by rw[p.o];exact g1);have S:=aH g2;clear g1 g2 o l t s d A;go_wp2;go_roundw
    case rel=>exact⟨k+1,_,rfl,by go_num,by omega,R.o,S.o⟩
    case measure=>simp[intOf];omega
  ·have U:decide ((k:Int)<P.length)=false:=by simpa using m
   have J:decide (k<P.length)=false:=by simpa using m
   have T:=aH (show k=P.length by omega);have s:=aH y;have d:=aH r;clear y r;go_wp2;go_ret;exact⟨_,rfl,by rw[<-T.o];exact s.o.base L,I.o.trans d.o⟩
end
def Ap:List TypeId:=[138,93,158,35,4,250,252,270,229,254]
def fF(w:World)(Z:List Nat):Prop:=∀z∈Z,∃vs T,aq w z vs T/\T∈Ap
variable{Z:List Nat}{vs:List Value}
theorem fF.not(h:fF w Z)(c:aq w b vs T)(ht:T∉Ap:=by decide):b∉Z:=λhm=>by
 obtain⟨f,g,a,d⟩:=h b hm;exact am rfl (c.differ a (λe=>ht (e ▸ d)))
theorem fF.sub{Z':List Nat}(h:fF w Z)(hs:∀z∈Z',z∈Z):fF w Z':=λz a=>h z (hs z a)
theorem fF.nil(w:World):fF w []:=λz a=>by simp at a
theorem fF.one(a:aq w b vs T)(ht:T∈Ap:=by decide):fF w [b]:=λz c=>by
 obtain rfl:z=b:=by simpa using c
 exact⟨_,_,a,ht⟩
structure LP where
 σ:Type
 n:Nat
 shares:Bool
 ar:σ->AR
 I:Nat->σ->Prop
 Sr:σ->Int->Bool->Bool
 R3:σ->Int->Bool->σ
 RZ:σ->Int->Bool
 Rz:σ->Int->σ
 RD:σ->Int->Bool
 Ru:σ->Int->σ
 sp:σ->Int->Nat->Int
 Ta:σ->Int->Int
 eqv:σ->σ->Prop:=Eq
def gG(p:LP)(s:p.σ)(i:Int):Value:=.agg #[(p.sp s i 0:Int),(p.sp s i 1:Int),(p.sp s i 2:Int),(p.sp s i 3:Int)]
def fS(pc:Int):Int:=if pc=0 then 0 else if pc<10 then 1 else if pc=10 then 2 else 3
def LP.st(p:LP)(s:p.σ)(i:Int):Int:=fS (p.sp s i 0)
def LP.rd(p:LP)(s:p.σ)(i:Int):Bool:= !(p.st s i==0)&&p.shares&&(p.sp s i 1==1)
structure LB(p:LP) where
 T:TypeId
 v:Value
 Z:List Nat
 ab:Nat
 wb:Nat
 kind:Int
 At:World->p.σ->Prop
 Sa:FuncId
 Sp:Value
 RB:FuncId
 RM:Value
 RR:FuncId
 R6:Value
 RO:FuncId
 R5:Value
 RL:FuncId
 R0:Value
section
variable{p:LP}
def dO(p:LP)(i:Int):Prop:=0<=i/\i<(p.n:Int)
structure LB.Ok(b:LB p):Prop where
 Ry:p.n<=32
 Sw:∀F w,(method (F+4) b.T b.v "Ask").run prog w= .ok (b.Sa,b.Sp) w
 RW:∀F w,(method (F+4) b.T b.v "Leave").run prog w= .ok (b.RB,b.RM) w
 RK:∀F w,(method (F+4) b.T b.v "Step").run prog w= .ok (b.RR,b.R6) w
 R7:∀F w,(method (F+4) b.T b.v "Spot").run prog w= .ok (b.RO,b.R5) w
 SL:∀F w,(method (F+4) b.T b.v "Count").run prog w= .ok (b.RL,b.R0) w
 SC:∀args w,(callFunc b.Sa args).run prog w= .ok (.enter b.Sa args) w
 R2:∀args w,(callFunc b.RB args).run prog w= .ok (.enter b.RB args) w
 Se:∀args w,(callFunc b.RR args).run prog w= .ok (.enter b.RR args) w
 R9:∀args w,(callFunc b.RO args).run prog w= .ok (.enter b.RO args) w
 SH:∀args w,(callFunc b.RL args).run prog w= .ok (.enter b.RL args) w
 St:∀w k s i r,p.I k s->b.At w s->dO p i->(r=true->p.shares=true)->Calls prog b.Sa #[b.Sp,.int .i64 i,.bool r] w λe w'=>e= .returned (.bool (p.Sr s i r))/\b.At w' (p.R3 s i r)/\af b.Z w w'
 RV:∀w k s i,p.I k s->b.At w s->dO p i->Calls prog b.RB #[b.RM,.int .i64 i] w λe w'=>e= .returned (.bool (p.RZ s i))/\b.At w' (p.Rz s i)/\af b.Z w w'
 Sc:∀w k s i,p.I k s->b.At w s->dO p i->Calls prog b.RR #[b.R6,.int .i64 i] w λe w'=>e= .returned (.bool (p.RD s i))/\b.At w' (p.Ru s i)/\af b.Z w w'
 R8:∀w s i,b.At w s->dO p i->Calls prog b.RO #[b.R5,.int .i64 i] w λe w'=>e= .returned (gG p s i)/\af [] w w'
 SG:∀w s i,b.At w s->dO p i->Calls prog b.RL #[b.R0,.int .i64 i] w λe w'=>e= .returned (p.Ta s i:Int)/\af [] w w'
 shares:∀w,Calls prog 11 #[b.kind] w λe w'=>e= .returned p.shares/\w=w'
 ar:∀w s,b.At w s->ax w b.ab b.wb (p.ar s)
 free:∀w s,b.At w s->fF w b.Z
 stay:∀w w' s S,b.At w s->af S w w'->fF w S->(∀z∈S,z∉b.Z)->b.At w' s
 ext:∀w s s',p.eqv s s'->b.At w s->b.At w s':=by intro w s s' e h;cases e;exact h
structure qU(b:LB p)(w:World)(lk:Nat)(s:p.σ):Prop where
 box:aq w lk [b.kind,p.n,.iface b.T b.v] 119
 at_:b.At w s
structure eP(b:LB p)(w:World)(wo tb lk:Nat)(s:p.σ):Prop where
 box:aq w wo [some b.ab,some tb,some lk,p.shares] 82
 lo:qU b w lk s
variable{b:LB p}{w w':World}{wo tb lk:Nat}{s s':p.σ}
theorem LB.Ok.same(h:b.Ok)(ha:b.At w s)(a:af [] w w'):b.At w' s:=h.stay _ _ _ _ ha a (fF.nil _) aS
theorem qU.same(h:b.Ok)(ha:qU b w lk s)(a:af [] w w'):qU b w' lk s:=⟨ha.box.Rr a aS,h.same ha.at_ a⟩
theorem qU.next(h:b.Ok)(ha:qU b w lk s)(c:af b.Z w w')(a:b.At w' s'):qU b w' lk s':=⟨ha.box.Rr c ((h.free _ _ ha.at_).not ha.box),a⟩
theorem eP.same(h:b.Ok)(ha:eP b w wo tb lk s)(a:af [] w w'):eP b w' wo tb lk s:=⟨ha.box.Rr a aS,ha.lo.same h a⟩
theorem eP.ext(h:b.Ok)(ha:eP b w wo tb lk s)(e:p.eqv s s'):eP b w wo tb lk s':=⟨ha.box,ha.lo.box,h.ext _ _ _ e ha.lo.at_⟩
theorem eP.next(h:b.Ok)(ha:eP b w wo tb lk s)(c:af b.Z w w')(a:qU b w' lk s'):eP b w' wo tb lk s':=⟨ha.box.Rr c ((h.free _ _ ha.lo.at_).not ha.box),a⟩
theorem eP.stay(h:b.Ok)(ha:eP b w wo tb lk s){S:List Nat}(a:af S w w')(hs:fF w S)(c:∀z∈S,z∉b.Z):eP b w' wo tb lk s:=⟨ha.box.Rr a (hs.not ha.box),ha.lo.box.Rr a (hs.not ha.lo.box),h.stay _ _ _ _ ha.lo.at_ a hs c⟩
end
def sR(w:World)(Z:List Nat):Prop:=∀z∈Z,∃vs T,aq w z vs T/\(T=138\/T=93\/T=158)
theorem sR.not(h:sR w Z)(a:aq w b vs T)(h1:T≠138:=by decide)(h2:T≠93:=by decide)(h3:T≠158:=by decide):b∉Z:=by
 intro hm;obtain⟨us,U,c,ht⟩:=h b hm;refine am rfl (a.differ c (λe=>?_));subst e;rcases ht with e|e|e
 ·exact h1 e
 ·exact h2 e
 ·exact h3 e
def sO(w:World)(tb:Nat)(P T:List Int):Prop:=∃(vp vt:Value)(gp gt:Nat),aq w tb [vp,vt,.int .u32 0,.int .i32 0,.int .u32 0,.slice none 0 0,.slice none 0 0,.slice none 0 0,.slice none 0 0] 136/\IR w gp vp P/\IR w gt vt T
def jG(w:World)(tb:Nat)(P T:List Int):Prop:=∃(vp vt vup vnode vslot vm:Value)(gt gn gs gm:Nat),aq w tb [vp,vt,.int .u32 1,.int .i32 0,.int .u32 0,vup,vnode,vslot,vm] 136/\IR w gt vt T/\
 IR w gn vnode (T.map λx=>(mS P x:Int))/\IR w gs vslot (eH T T.length)/\IR w gm vm ((tE P).map λx=>(T.count x:Int))
def Aw(w:World)(tb:Nat)(P T:List Int):Prop:=∃(vp vt vup vnode vslot vm:Value)(U:List Value),aq w tb [vp,vt,.int .u32 1,.int .i32 0,.int .u32 0,vup,vnode,vslot,vm] 136/\w.ownsRow 0 22 1 vup T.length U/\
 ∀i,i<T.length->∃v,U[i]? =some v/\w.ownsRow 0 3 1 v (dZ P 40 (T[i]?.getD 0)).length ((dZ P 40 (T[i]?.getD 0)).map (Value.int .i64))
theorem IR.stay(h:IR w g v zs)(b:af Z w w')(d:sR w Z):IR w' g v zs:=by
 have a:=h;obtain⟨_,_,_,c,_⟩:=h;exact a.Rr b (d.not c)
theorem jG.stay{w w':World}{tb:Nat}{P T:List Int}(h:jG w tb P T){Z:List Nat}(c:af Z w w')(d:sR w Z):jG w' tb P T:=by
 obtain⟨g,i,e,a,b,f,gt,gn,gs,gm,h1,h2,h3,h4,h5⟩:=h;exact⟨g,i,e,a,b,f,gt,gn,gs,gm,h1.Rr c (d.not h1),h2.stay c d,h3.stay c d,h4.stay c d,h5.stay c d⟩
theorem sO.stay{w w':World}{tb:Nat}{P T:List Int}(h:sO w tb P T){Z:List Nat}(a:af Z w w')(b:sR w Z):sO w' tb P T:=by
 obtain⟨c,d,gp,gt,h1,h2,h3⟩:=h;exact⟨c,d,gp,gt,h1.Rr a (b.not h1),h2.stay a b,h3.stay a b⟩
theorem sR.nil(w:World):sR w []:=λz a=>by simp at a
section
variable{w:World}{tb:Nat}{P T:List Int}
theorem f8(h:jG w tb P T):Calls prog 103 #[some tb] w λe w'=>e= .returned (some tb)/\w=w':=by
 obtain⟨k,l,g,a,b,j,gt,gn,gs,gm,h1, -⟩:=h;have c:=aH (λd=>Bk ⟨tb,2,none⟩ d w (h1.cell (i:=2) rfl));have f:= @aY prog;clear h1;go_enter func103,ntmps103;go_wp2_with(go_at_call 109;refine(c.o _).mono ?_;rintro e w' ⟨rfl,rfl⟩)
 go_ret;exact⟨rfl,rfl⟩
theorem nR(h:sO w tb P T)(hs:ea P T):Calls prog 103 #[some tb] w λe w'=>e= .returned (some tb)/\jG w' tb P T/\Aw w' tb P T/\af [tb] w w':=by
 obtain⟨y,o,gp,gt,h1,h2,h3⟩:=h;have d:af [tb] w (w.setCell (tb,3) (.int .i32 1)):=aU;have hn:gp∉[tb]/\gt∉[tb]:=by
  obtain⟨_,_,_,a1,_⟩:=h2;obtain⟨_,_,_,a2,_⟩:=h3;have:=h1.differ a1 aJ;have:=h1.differ a2 aJ;simp;omega
 have j:=GW hs (h2.Rr d hn.1) (h3.Rr d hn.2) (h1.set 3 (.int .i32 1));have A:=yB tb (λw2=>∃f b c gm U w0,U.length=T.length/\Rq (λi=>dZ P 40 (T[i]?.getD 0)) w0 w2 tb gm y o f b c (tE P).length U (T.map λx=>(mS P x:Int)) (eH T T.length) (λv=>(T.count ((tE P)[v]?.getD 0):Int))/\IR w2 gt o T/\af [tb] w w2) w (h1.cell (i:=2) rfl) (h1.cell (i:=3) rfl) (h1.frozen 3) (j.mono λe w' ⟨F,f,b,c,gm,U,w0,q,a,_,_,p,_,n⟩=>⟨F,⟨a.box.cell (i:=2) rfl,a.box.cell (i:=3) rfl,a.box.frozen 2,a.box.frozen 3⟩,f,b,c,gm,U,w0,q,a,n,d.trans p⟩);have D:=aH A;have k:=aH hs;have N:= @aY prog;clear A j d h1 h2 h3 hn hs;go_enter func103,ntmps103;go_wp2_with(go_at_call 109;refine D.o.mono ?_;rintro e w' ⟨rfl,hQ⟩;have E:=aH hQ;clear hQ)
 go_ret;obtain⟨w2,⟨f,b,c,gm,U,w0,q,a,n,p⟩,rfl⟩:=E.o;obtain⟨s1,s2,s3,s4⟩:=k.o.size;have z:tE P≠[]:=λl=>by
  have O:T[0]?.getD 0∈T:=by
   rw[eB aO];exact lB aO
  have:=kT k.o O;rw[l] at this;simp at this
 have G:=ki P;have B:=(a.box.Rs.set 2 (.int .u32 1)).set 3 (.int .i32 0);have d:af [tb] w2 ((w2.drew.setCell (tb,2) (.int .u32 1)).setCell (tb,3) (.int .i32 0)):=((aF.Rs).set _ _ (.inl aS)).set _ _ (.inl aS);have t:(T.map λx=>(mS P x:Int))≠[]:=by
  intro l;have:=sI List.length l;rw[kZ,FV] at this;omega
 have u:eH T T.length≠[]:=by
  intro l;have:=sI List.length l;unfold eH at this;rw[kZ,List.length_range,FV] at this;omega
 obtain⟨gn,K,I, -⟩:=IR.SN t a.Sh;obtain⟨gs,L,J, -⟩:=IR.SN u a.S1;have M:=a.lt;have s:gt∉[tb]:=by
  obtain⟨_,_,_,a2,_⟩:=n;have:=a.box.differ a2 aJ;simp;omega
 have H:IR w2 gm (.slice (some ⟨gm,0,none⟩) (tE P).length (tE P).length) ((tE P).map λx=>(T.count x:Int)):=by
  refine⟨(tE P).length,_,by simp,a.Tc,by unfold maxLen;simp;omega,λi hi=>?_⟩;have m:i<(tE P).length:=by simpa using hi
  rw[ew _ m];simp[m]
 refine⟨rfl,⟨y,o,f,b,c,_,gt,gn,gs,gm,B,n.Rr d s,I.Rr d aQ,J.Rr d aQ,H.Rr d aQ⟩,⟨y,o,f,b,c,_,U,B,?_,λi hi=>?_⟩,p.trans d⟩
 ·have:=bR (qG a.up (fA _)) d (λg r=>by have:=bN a.up g r;simp;omega)
  rwa [q] at this
 ·obtain⟨v,Q,C, -⟩:=a.ur i aO;exact⟨v,Q,bR (qG C (fA _)) d (λg r=>by have:=bN C g r;simp;omega)⟩
theorem pP(h:sO w tb P T)(hs:ea P T):Calls prog 103 #[some tb] w λe w'=>e= .returned (some tb)/\jG w' tb P T/\af [tb] w w':=
 (nR h hs).mono λ_ _ ⟨h1,h2,_,h3⟩=>⟨h1,h2,h3⟩
theorem jf(h:sO w tb P T):Calls prog 86 #[some tb] w λe w'=>e= .returned T.length/\w=w':=by
 obtain⟨a,b,gp,gt,h1,h2,⟨cap,cur,rfl, -⟩⟩:=h;have c1:=h1.cell (i:=1) rfl;clear h1 h2;go_enter func86,ntmps86;go_wp2;go_ret;exact⟨rfl,rfl⟩
theorem nC(h:jG w tb P T):Calls prog 86 #[some tb] w λe w'=>e= .returned T.length/\w=w':=by
 obtain⟨f,g,c,a,b,d,gt,gn,gs,gm,h1,⟨cap,cur,rfl, -⟩, -⟩:=h;have c1:=h1.cell (i:=1) rfl;clear h1;go_enter func86,ntmps86;go_wp2;go_ret;exact⟨rfl,rfl⟩
variable{i:Nat}
theorem yS(h:jG w tb P T)(hi:i<T.length):Calls prog 104 #[some tb,i] w λe w'=>e= .returned true/\w=w':=by
 have a:=aH (nC h);have d1:decide ((0:Int)<=(i:Int))=true:=by simp
 have d2:decide ((i:Int)<(T.length:Int))=true:=by simpa using hi
 have d3:decide (i<T.length)=true:=by simpa using hi
 clear h hi;go_enter func104,ntmps104;go_wp2_with fail;refine gF a.o ?_;rintro w' rfl;go_wp2;go_ret;exact⟨rfl,rfl⟩
theorem iI(h:jG w tb P T)(hi:i<T.length):Calls prog 94 #[some tb,i] w λe w'=>e= .returned (mS P (T[i]?.getD 0):Int)/\w=w':=by
 have g:=aH (yS h hi);have f:=aH (f8 h);obtain⟨o,p,m,a,b,n,gt,gn,gs,gm,h1, -,h3, -⟩:=h;have l:=nm h3 (k:=i) (by simpa using hi);have c:(T.map λx=>(mS P x:Int))[i]?.getD 0=(mS P (T[i]?.getD 0):Int):=by simp[hi]
 rw[c] at l;obtain⟨cap,cur,rfl, -⟩:=h3;have j:=h1.cell (i:=6) rfl;rw[kZ] at j;have l1:(i:Int)<T.length:=by omega
 have d:= @aX prog;generalize(mS P (T[i]?.getD 0):Int)=y at*;clear h1 c hi;go_enter func94,ntmps94;go_wp2_with fail;refine gF g.o ?_;rintro w' rfl;go_wp2_with fail;refine gF f.o ?_;rintro w' rfl;go_wp2;go_ret;exact⟨rfl,rfl⟩
theorem Af(h:jG w tb P T)(hi:i<T.length):Calls prog 92 #[some tb,i] w λe w'=>e= .returned ((T.take i).count (T[i]?.getD 0):Nat)/\w=w':=by
 have j:=aH (yS h hi);have g:=aH (f8 h);obtain⟨p,q,n,b,c,o,gt,gn,gs,gm,h1, -, -,h3, -⟩:=h;have a:(eH T T.length).length=T.length:=by unfold eH;simp
 have m:=nm h3 (k:=i) aO;have d:(eH T T.length)[i]?.getD 0=(((T.take i).count (T[i]?.getD 0):Nat):Int):=by unfold eH;simp[hi]
 rw[d] at m;obtain⟨cap,cur,rfl, -⟩:=h3;have l:=h1.cell (i:=7) rfl;rw[a] at l;have l1:(i:Int)<T.length:=by omega
 have f:= @aX prog;generalize(((T.take i).count (T[i]?.getD 0):Nat):Int)=y at*;clear h1 d hi a;go_enter func92,ntmps92;go_wp2_with fail;refine gF j.o ?_;rintro w' rfl;go_wp2_with fail;refine gF g.o ?_;rintro w' rfl;go_wp2;go_ret;exact⟨rfl,rfl⟩
theorem kj(h:jG w tb P T):Calls prog 87 #[some tb] w λe w'=>e= .returned (.int .i64 (tE P).length)/\w=w':=by
 have c:=aH (f8 h);obtain⟨j,k,f,a,b,g,gt,gn,gs,gm,h1, -, -, -,⟨cap,cur,rfl, -⟩⟩:=h;have d:=h1.cell (i:=8) rfl;rw[kZ] at d;clear h1;go_enter func87,ntmps87;go_wp2_with fail;refine gF c.o ?_;rintro w' rfl;go_wp2;go_ret;exact⟨rfl,rfl⟩
theorem sE(h:sO w tb P T)(hs:ea P T):Calls prog 87 #[some tb] w λe w'=>e= .returned (.int .i64 (tE P).length)/\jG w' tb P T/\af [tb] w w':=by
 have f:=aH (pP h hs);clear h hs;go_enter func87,ntmps87;go_wp2_with fail;refine gF f.o ?_;rintro w' ⟨d,a⟩;have g:=aH (ae d a);obtain⟨m,n,k,b,c,l,gt,gn,gs,gm,h1, -, -, -,⟨cap,cur,rfl, -⟩⟩:=d;have j:=h1.cell (i:=8) rfl;rw[kZ] at j;clear h1 a;go_wp2;go_ret;exact⟨rfl,g.o⟩
theorem wZ(h:jG w tb P T){v:Nat}(hv:v<(tE P).length):Calls prog 88 #[some tb,v] w λe w'=>e= .returned (T.count ((tE P)[v]?.getD 0):Nat)/\w=w':=by
 have f:=aH (kj h);have d:=aH (f8 h);obtain⟨n,o,l,a,b,m,gt,gn,gs,gm,h1, -, -, -,h3⟩:=h;have j:=nm h3 (k:=v) (by simpa using hv);have c:((tE P).map λx=>(T.count x:Int))[v]?.getD 0=((T.count ((tE P)[v]?.getD 0):Nat):Int):=by simp[hv]
 rw[c] at j;obtain⟨cap,cur,rfl, -⟩:=h3;have g:=h1.cell (i:=8) rfl;rw[kZ] at g;have l1:(v:Int)<(tE P).length:=by omega
 have d1:decide ((v:Int)<0)=false:=by simp
 have d2:decide (((tE P).length:Int)<=(v:Int))=false:=by simp;omega
 have d3:decide ((tE P).length<=v)=false:=by simp;omega
 generalize((T.count ((tE P)[v]?.getD 0):Nat):Int)=y at*;clear h1 c hv;go_enter func88,ntmps88;go_wp2_with fail;refine gF f.o ?_;rintro w' rfl;go_wp2_with fail;refine gF d.o ?_;rintro w' rfl;go_wp2;go_ret;exact⟨rfl,rfl⟩
end
structure CK where
 P:List Int
 T:List Int
 G:FK
 L:Nat->FK
 cn:Nat->Nat
 gk:Int
 lk:Int
 par:Int
 bud:Int
structure CS where
 A:AR
 GS:Nat->Nat->Int
 LS:Nat->Nat->Nat->Int
 TS:Nat->Nat->Int
structure CB where
 cb:Nat
 tb:Nat
 gf:Nat
 gl:Nat
 gs:Nat
 ab:Nat
 wb:Nat
 cs:Nat
 nb:Nat
 Ud:Nat
 fb:Nat->Nat
 lb:Nat->Nat
 sb:Nat->Nat
def CK.E(K:CK):Nat:=(tE K.P).length
def CK.n(K:CK):Nat:=K.T.length
def CK.nd(K:CK)(th:Nat):Nat:=mS K.P (K.T[th]?.getD 0)
def CK.sl(K:CK)(th:Nat):Nat:=(K.T.take th).count (K.T[th]?.getD 0)
def dL(f:Nat->Nat->Nat->Int)(v:Nat)(x:Nat->Nat->Int):Nat->Nat->Nat->Int:=λu=>if u=v then x else f u
structure bg(w:World)(B:CB)(K:CK)(S:CS):Prop where
 box:aq w B.cb [some B.ab,some B.tb,K.gk,K.lk,K.par,K.bud,some B.gf,.slice (some ⟨B.nb,0,none⟩) K.E B.Ud,.slice (some ⟨B.cs,0,none⟩) K.n K.n] 201
 Sj:jG w B.tb K.P K.T
 Sf:cZ w B.gf B.gl B.gs B.ab B.wb S.A S.GS K.G
 Sh:∃cells,aq w B.nb cells 203/\∀v,v<K.E->cells[v*2]? =some (.pointer (some ⟨B.fb v,0,none⟩))/\cells[v*2+1]? =some (.int .i64 (K.cn v))
 loc:∀v,v<K.E->cZ w (B.fb v) (B.lb v) (B.sb v) B.ab B.wb S.A (S.LS v) (K.L v)
 row:aq w B.cs (dJ K.n S.TS) 138
 Sg:B.cs≠B.gs/\(∀v,v<K.E->B.sb v≠B.cs/\B.sb v≠B.gs)/\∀u v,u<K.E->v<K.E->B.sb u=B.sb v->u=v
 ok:ea K.P K.T
def CZ(B:CB)(K:CK):List Nat:=B.cs::B.gs::B.ab::B.wb::(List.range K.E).map B.sb
section
variable{w w':World}{B:CB}{K:CK}{S:CS}
theorem bg.ar(h:bg w B K S):ax w B.ab B.wb S.A:=h.Sf.ar
theorem a8{z:Nat}:z∈CZ B K↔z=B.cs\/z=B.gs\/z=B.ab\/z=B.wb\/∃v,v<K.E/\B.sb v=z:=by unfold CZ;simp
theorem bg.mut(h:bg w B K S):sR w (CZ B K):=by
 intro z b;rcases a8.1 b with e|e|e|e|⟨v,hv,e⟩
 ·subst e;exact⟨_,_,h.row,.inl rfl⟩
 ·subst e;obtain⟨vs,a⟩:=h.Sf.S3;exact⟨_,_,a,.inl rfl⟩
 ·subst e;exact⟨_,_,h.ar.box,.inr (.inl rfl)⟩
 ·subst e;exact⟨_,_,h.ar.row,.inr (.inr rfl)⟩
 ·subst e;obtain⟨vs,a⟩:=(h.loc v hv).S3;exact⟨_,_,a,.inl rfl⟩
variable{Z:List Nat}
theorem sR.sub{w:World}{Z':List Nat}(h:sR w Z)(hs:∀z∈Z',z∈Z):sR w Z':=λz a=>h z (hs z a)
theorem cZ.SE{fb lb sb ab wb:Nat}{A:AR}{F:Nat->Nat->Int}{M:FK}(h:cZ w fb lb sb ab wb A F M)(a:sR w Z):fb∉Z/\lb∉Z:=by
 obtain⟨_,h1⟩:=h.TZ;obtain⟨_,T,h2,t1,t2,t3,_⟩:=h.UG;exact⟨a.not h1,a.not h2 t1 t2 t3⟩
theorem bg.re(h:bg w B K S)(b:af Z w w')(k:∀z∈Z,z∈CZ B K){a:AR}{c:Nat->Nat->Int}{d:Nat->Nat->Nat->Int}{e:Nat->Nat->Int}(f:cZ w' B.gf B.gl B.gs B.ab B.wb a c K.G)(g:∀v,v<K.E->cZ w' (B.fb v) (B.lb v) (B.sb v) B.ab B.wb a (d v) (K.L v))(i:aq w' B.cs (dJ K.n e) 138):bg w' B K ⟨a,c,d,e⟩:=by
 have hm:=h.mut.sub k;obtain⟨cells,hn,j⟩:=h.Sh;exact{box:=h.box.Rr b (hm.not h.box),Sj:=h.Sj.stay b hm,Sf:=f,Sh:=⟨cells,hn.Rr b (hm.not hn),j⟩,loc:=g,row:=i,Sg:=h.Sg,ok:=h.ok}
theorem bg.same(h:bg w B K S)(a:af [] w w'):bg w' B K S:=
 h.re a aS (h.Sf.Rr a aS) (λv hv=>(h.loc v hv).Rr a aS) (h.row.Rr a aS)
variable{c:AR}
theorem bg.R1(h:bg w B K S)(a:af [B.ab,B.wb] w w')(d:ax w' B.ab B.wb c):bg w' B K {S with A:=c}:=by
 have hm:sR w [B.ab,B.wb]:=h.mut.sub (λz b=>a8.2 (by simp at b;omega));refine h.re a (λz b=>a8.2 (by simp at b;omega)) ?_ (λv hv=>?_) ?_
 ·have:=h.Sf.apart;exact h.Sf.re a (h.Sf.SE hm).1 (h.Sf.SE hm).2 aQ d
 ·have:=(h.loc v hv).apart;exact(h.loc v hv).re a ((h.loc v hv).SE hm).1 ((h.loc v hv).SE hm).2 aQ d
 ·exact h.row.Rr a (by have:=h.row.differ h.ar.box aJ;have:=h.row.differ h.ar.row aJ;simp;omega)
theorem bg.S6(h:bg w B K S){d:Nat->Nat->Int}(a:af [B.gs,B.ab,B.wb] w w')(e:cZ w' B.gf B.gl B.gs B.ab B.wb c d K.G):bg w' B K {S with A:=c,GS:=d}:=by
 have hm:sR w [B.gs,B.ab,B.wb]:=h.mut.sub (λz b=>a8.2 (by simp at b;omega));obtain⟨d1,d2,d3⟩:=h.Sg;refine h.re a (λz b=>a8.2 (by simp at b;omega)) e (λv hv=>?_) ?_
 ·have:=(h.loc v hv).apart;have:=d2 v hv;exact(h.loc v hv).re a ((h.loc v hv).SE hm).1 ((h.loc v hv).SE hm).2 aQ e.ar
 ·exact h.row.Rr a (by have:=h.row.differ h.ar.box aJ;have:=h.row.differ h.ar.row aJ;simp;omega)
theorem bg.local(h:bg w B K S){f:AR}{g:Nat->Nat->Int}{v:Nat}(hv:v<K.E)(c:af [B.sb v,B.ab,B.wb] w w')(d:cZ w' (B.fb v) (B.lb v) (B.sb v) B.ab B.wb f g (K.L v)):bg w' B K {S with A:=f,LS:=dL S.LS v g}:=by
 have hm:sR w [B.sb v,B.ab,B.wb]:=h.mut.sub (λz b=>a8.2 (by
  simp at b;rcases b with e|e|e
  ·exact .inr (.inr (.inr (.inr ⟨v,hv,e.symm⟩)))
  ·omega
  ·omega))
 obtain⟨d1,d2,d3⟩:=h.Sg;have j:=d2 v hv;refine h.re c (λz b=>a8.2 (by
  simp at b;rcases b with e|e|e
  ·exact .inr (.inr (.inr (.inr ⟨v,hv,e.symm⟩)))
  ·omega
  ·omega)) ?_ (λu a=>?_) ?_
 ·have:=h.Sf.apart;exact h.Sf.re c (h.Sf.SE hm).1 (h.Sf.SE hm).2 aQ d.ar
 ·unfold dL;by_cases e:u=v
  ·subst e;rw[ad rfl];exact d
  ·rw[ac e];have:=(h.loc u a).apart;have i:B.sb u≠B.sb v:=λx=>e (d3 u v a hv x);exact(h.loc u a).re c ((h.loc u a).SE hm).1 ((h.loc u a).SE hm).2 aQ d.ar
 ·exact h.row.Rr c (by have:=h.row.differ h.ar.box aJ;have:=h.row.differ h.ar.row aJ;simp;omega)
variable{t:Nat}
theorem bg.put(h:bg w B K S)(th:Nat)(ht:t<4)(x:Int):bg (w.setCell (B.cs,th*4+t) (.int .i64 x)) B K {S with TS:=aa S.TS th t x}:=by
 have a:af [B.cs] w (w.setCell (B.cs,th*4+t) (.int .i64 x)):=aU;have hm:sR w [B.cs]:=h.mut.sub (λz b=>a8.2 (by simp at b;omega));obtain⟨d1,d2,d3⟩:=h.Sg;have n1:=h.row.differ h.ar.box aJ;have d:=h.row.differ h.ar.row aJ;have c:=h.row.set (th*4+t) (.int .i64 x);rw[i9 K.n S.TS ht x] at c;refine h.re a (λz b=>a8.2 (by simp at b;omega)) ?_ (λv hv=>?_) c
 ·exact h.Sf.re a (h.Sf.SE hm).1 (h.Sf.SE hm).2 aQ (h.ar.Rr a aQ aQ)
 ·have:=d2 v hv;exact(h.loc v hv).re a ((h.loc v hv).SE hm).1 ((h.loc v hv).SE hm).2 aQ (h.ar.Rr a aQ aQ)
variable{th:Nat}
theorem bg.p(h:bg w B K S)(hj:th<K.n)(ht:t<4):w.cell? (B.cs,th*4+t)=some (.int .i64 (S.TS th t)):=h.row.cell (a9 K.n S.TS hj ht)
theorem bg.p0(h:bg w B K S)(hj:th<K.n):w.cell? (B.cs,th*4)=some (.int .i64 (S.TS th 0)):=h.row.cell (a9 K.n S.TS (t:=0) hj aO)
theorem bg.Ry(h:bg w B K S):K.n<=32/\1<=K.n:=⟨h.ok.size.2.2.2,h.ok.size.2.2.1⟩
theorem bg.Th(h:bg w B K S)(hj:th<K.n):K.nd th<K.E:=by
 unfold CK.nd CK.E mS;refine qm.2 (kT h.ok ?_);rw[eB hj];exact lB hj
theorem AI(h:bg w B K S):Calls prog 224 #[some B.cb] w λe w'=>e= .returned K.n/\w=w':=by
 have a:=h.box.cell (i:=8) rfl;clear h;go_enter func224,ntmps224;go_wp2;go_ret;exact⟨rfl,rfl⟩
theorem Jm(h:bg w B K S)(i:Int):Calls prog 225 #[some B.cb,i] w λe w'=>e= .returned (.bool (bC K.n i))/\w=w':=by
 have a:=aH (AI h);clear h;by_cases h1:0<=i
 ·have d1:decide (0<=i)=true:=by simpa using h1
  have e:bC K.n i=decide (i<(K.n:Int)):=by unfold bC;simp[h1]
  rw[e];cases hd:decide (i<(K.n:Int))
  all_goals
   go_enter func225,ntmps225;go_wp2_with fail;refine gF a.o ?_;rintro w' rfl;go_wp2;go_ret;exact⟨rfl,rfl⟩
 ·have d1:decide (0<=i)=false:=by simpa using h1
  have e:bC K.n i=false:=by unfold bC;simp;omega
  rw[e];go_enter func225,ntmps225;go_wp2;go_ret;exact⟨rfl,rfl⟩
theorem rn(h:bg w B K S)(i:Int):Calls prog 222 #[some B.cb,i] w λe w'=>e= .returned (mB K.n S.TS i)/\af [] w w':=by
 have d:af [] w (w.alloc (.cells #[(0:Int),(0:Int),(0:Int),(0:Int)] 138)):=aF.alloc _;have c:=aH (Jm (h.same d) i);have g:= @aX prog;cases hi:bC K.n i with
 |false=>
  have b:mB K.n S.TS i= .agg #[(0:Int),(0:Int),(0:Int),(0:Int)]:=by unfold mB;rw[hi];rfl
  rw[b];rw[hi] at c;clear h b hi d;go_enter func222,ntmps222;go_wp2_with fail;refine gF c.o ?_;rintro w' rfl;go_wp2_with fail;exact eO (v:=.agg #[(0:Int),(0:Int),(0:Int),(0:Int)]) (by simp[results,results222,go_sem]) rfl ⟨rfl,aF.alloc _⟩
 |true=>
  have a:0<=i/\i<(K.n:Int):=by unfold bC at hi;simpa using hi
  obtain⟨j,rfl⟩:=ix a.1;have hj:j<K.n:=by omega
  have b:mB K.n S.TS j= .agg #[(S.TS j 0:Int),(S.TS j 1:Int),(S.TS j 2:Int),(S.TS j 3:Int)]:=by unfold mB;rw[hi];rfl
  rw[b];rw[hi] at c;have h2:=h.same d;have k:=h2.box.cell (i:=8) rfl;have l:=h2.p0 hj;have m:=h2.p hj (t:=1) aO;have n:=h2.p hj (t:=2) aO;have o:=h2.p hj (t:=3) aO;have l1:(j:Int)<K.n:=by omega
  have f:=h.Ry.1;clear h b hi a d h2;go_enter func222,ntmps222;go_wp2_with fail;refine gF c.o ?_;rintro w' rfl;go_wp2_with fail;refine eO (v:=.agg #[(S.TS j 0:Int),(S.TS j 1:Int),(S.TS j 2:Int),(S.TS j 3:Int)]) (by simp[results,results222,go_sem]) rfl ⟨rfl,?_⟩;exact aF.alloc _
end
structure nJ where
 n:Nat
 tail:Nat
abbrev lu:=RX
structure zd where
 lb:Nat
 sb:Nat
 ab:Nat
 wb:Nat
def kP(n:Nat)(S:Nat->Nat->Int)(j:Nat)(tt v:Int):Nat->Nat->Int:=if ai n S j 10 then aa (bo n S j 10 tt) j 3 v else S
structure eY(w:World)(B:zd)(M:nJ)(X:RX):Prop where
 box:aq w B.lb [some B.ab,M.tail,.slice (some ⟨B.sb,0,none⟩) M.n M.n] 247
 row:aq w B.sb (dJ M.n X.S) 138
 ar:ax w B.ab B.wb X.A
 Ry:M.n<=32
 tl:M.tail<=4096
def dT(M:nJ)(x:Int):Int:=wrap64 (wrap64 ((M.tail:Int)+wrap64 (2*x)) - 1)
def dE(M:nJ)(x:Int):Int:=wrap64 ((M.tail:Int)+wrap64 (2*x))
def zW(M:nJ)(X:lu)(j:Nat):lu×Int:=(⟨X.A.store (dT M ((j:Int)+1)) 0,X.S⟩,2)
def zX(M:nJ)(X:lu)(j:Nat):lu×Int:=(⟨X.A.store (dE M ((j:Int)+1)) 0,X.S⟩,3)
def zY(M:nJ)(X:lu)(j:Nat):lu×Int:=(⟨X.A.swap M.tail ((j:Int)+1),aa X.S j 1 (X.A.get M.tail)⟩,if X.A.get M.tail=0 then 6 else 4)
def zZ(M:nJ)(X:lu)(j:Nat):lu×Int:=(⟨X.A.store (dT M (X.S j 1)) ((j:Int)+1),X.S⟩,5)
def wP(M:nJ)(X:lu)(j:Nat):lu×Int:=if 0<(X.A.get (dE M ((j:Int)+1))) then(⟨X.A.load (dE M ((j:Int)+1)),aa (aa X.S j 1 (X.A.get (dE M ((j:Int)+1)))) j 2 0⟩,10) else(⟨X.A.load (dE M ((j:Int)+1)),aa X.S j 1 (X.A.get (dE M ((j:Int)+1)))⟩,if(X.A.get (dE M ((j:Int)+1)))<0 then 6 else 5)
def z5(M:nJ)(X:lu)(j:Nat):lu×Int:=(⟨X.A.store (dE M ((j:Int)+1)) 1,aa (aa X.S j 1 1) j 2 1⟩,10)
def uQ(M:nJ)(X:lu)(j:Nat):lu×Int:=(⟨X.A.load (dT M ((j:Int)+1)),aa X.S j 1 (X.A.get (dT M ((j:Int)+1)))⟩,if(X.A.get (dT M ((j:Int)+1)))=0 then 12 else 14)
def uR(M:nJ)(X:lu)(j:Nat):lu×Int:=(⟨X.A.Sd M.tail ((j:Int)+1) 0,X.S⟩,if X.A.RE M.tail ((j:Int)+1)=true then 0 else 13)
def px(M:nJ)(X:lu)(j:Nat):lu×Int:=(⟨X.A.load (dT M ((j:Int)+1)),aa X.S j 1 (X.A.get (dT M ((j:Int)+1)))⟩,if(X.A.get (dT M ((j:Int)+1)))=0 then 13 else 14)
def yF(M:nJ)(X:lu)(j:Nat):lu×Int:=(⟨X.A.store (dE M (X.S j 1)) (X.S j 3),X.S⟩,0)
def uS(M:nJ)(X:lu)(j:Nat):lu×Int:=(⟨X.A.load (dT M ((j:Int)+1)),aa X.S j 2 (X.A.get (dT M ((j:Int)+1)))⟩,if(X.A.get (dT M ((j:Int)+1)))=0 then 10 else 16)
def yG(M:nJ)(X:lu)(j:Nat):lu×Int:=(⟨X.A.store (dE M (X.S j 2)) (X.S j 3),X.S⟩,0)
def eF(M:nJ)(X:lu)(j:Nat):lu×Int:=
 if X.S j 0=1 then zW M X j else
 if X.S j 0=2 then zX M X j else
 if X.S j 0=3 then zY M X j else
 if X.S j 0=4 then zZ M X j else
 if X.S j 0=5 then wP M X j else
 if X.S j 0=6 then z5 M X j else
 if X.S j 0=11 then uQ M X j else
 if X.S j 0=12 then uR M X j else
 if X.S j 0=13 then px M X j else
 if X.S j 0=14 then yF M X j else
 if X.S j 0=15 then uS M X j else
 if X.S j 0=16 then yG M X j else
 (X,X.S j 0)
def oh(pc:Int):Prop:=(0<=pc/\pc<=6)\/(10<=pc/\pc<=16)
def g6(X:lu)(j:Nat):Bool:= !(X.S j 0==0)&& !(X.S j 0==10)
def oi(M:nJ)(X:lu)(j:Nat):Bool:=g6 X j&&((eF M X j).2==0||(eF M X j).2==10)
def jC(M:nJ)(X:lu)(j:Nat):lu:=if g6 X j then{(eF M X j).1 with S:=aa (eF M X j).1.S j 0 (eF M X j).2} else X
section
variable{w0:World}{Z:List Nat}{B:FB}{K:FK}{x:RX}{j:Nat}
theorem B4(e:K.k=6):xA B K [some B.ab,K.b,.slice (some ⟨B.sb,0,none⟩) K.n B.cp] B.xs:=⟨by simp[B2,e],rfl⟩
theorem Oy(e:K.k=6):Pu (rD w0 Z B K) 246 #[some B.lb] x (.int .i64 K.n):=have E:= @B4 B K e;rV
theorem LJ(e:K.k=6)(hj:j<K.n):Ct (rD w0 Z B K) 240 #[some B.lb,j] x (.agg #[(x.S j 0:Int),(x.S j 1:Int),(x.S j 2:Int),(x.S j 3:Int)]) x:=by
 have E:= @B4 B K e;have K1:=aH (@Oy w0 Z B K x e);have CK:=aH λw=> @Lu w0 w Z B K x j _ _ E hj;exact B3
theorem Ow(e:K.k=6)(hz:B.sb∈Z)(hj:j<K.n)(fr a:Int):Ct (rD w0 Z B K) 245 #[some B.lb,j,fr,a] x (.bool (ai K.n x.S j fr)) ⟨x.A,bo K.n x.S j fr a⟩:=by
 have E:= @B4 B K e;have K1:=aH (@Oy w0 Z B K x e).ct;refine Rf (pt:=λs=>(⟨x.A,s⟩:RX)) hj rfl ?_ ?_
 ·intro h;subst h;exact rW 0
 ·intro h;exact rW 0
theorem QN(e:K.k=6)(a:B.sb∈Z)(hj:j<K.n):Ct (rD w0 Z B K) 239 #[some B.lb,j] x (.bool (ai K.n x.S j 0)) ⟨x.A,bo K.n x.S j 0 1⟩:=by
 have E:= @B4 B K e;have K1:=aH (@Ow w0 Z B K x j e a hj 0 1);exact lD
theorem Oz(e:K.k=6)(hz:B.sb∈Z)(hj:j<K.n)(a v:Int):Ct (rD w0 Z B K) 251 #[some B.lb,j,a,v] x (.bool (ai K.n x.S j 10)) ⟨x.A,kP K.n x.S j a v⟩:=by
 have E:= @B4 B K e;have K1:= @Ow w0 Z B K x j e hz hj 10 a;unfold kP;cases c:ai K.n x.S j 10 with
 |true=>rw[c] at K1;replace K1:=aH K1;simp only[bt];exact rW 3
 |false=>
  have d:bo K.n x.S j 10 a=x.S:=by unfold bo;rw[c];rfl
  rw[c,d] at K1;replace K1:=aH K1;simp only[ko,br];exact rW 3
theorem QP(e:K.k=6)(a:B.sb∈Z)(hj:j<K.n)(v:Int):Ct (rD w0 Z B K) 247 #[some B.lb,j,v] x (.bool (ai K.n x.S j 10)) ⟨x.A,kP K.n x.S j 11 v⟩:=by
 have E:= @B4 B K e;have K1:=aH (@Oz w0 Z B K x j e a hj 11 v);exact lD
theorem QQ(e:K.k=6)(a:B.sb∈Z)(hj:j<K.n)(v:Int):Ct (rD w0 Z B K) 248 #[some B.lb,j,v] x (.bool (ai K.n x.S j 10)) ⟨x.A,kP K.n x.S j 15 v⟩:=by
 have E:= @B4 B K e;have K1:=aH (@Oz w0 Z B K x j e a hj 15 v);exact lD
theorem rgN(e:K.k=6)(y:Int):Ct (rD w0 Z B K) 252 #[some B.lb,y] x (.int .i64 (dT ⟨K.n,K.b⟩ y)) x:=have E:= @B4 B K e;lD
theorem rgT(e:K.k=6)(y:Int):Ct (rD w0 Z B K) 253 #[some B.lb,y] x (.int .i64 (dE ⟨K.n,K.b⟩ y)) x:=have E:= @B4 B K e;lD
theorem uT{p:Prop}(t:Nat)(h:Tg t->p:=by
 intro HT;have E:= @B4 B K e;have K1:=aH λx=> @rgN w0 B.z B K x e;have K2:=aH λx=> @rgT w0 B.z B K x e;exact MB):p:=h ⟨⟩
theorem QO(e:K.k=6)(hj:j<K.n)(a:1<=x.S j 0/\x.S j 0<=6):Ct (rD w0 B.z B K) 249 #[some B.lb,.pointer (some ⟨B.sb,j*4,none⟩),((j:Int)+1:Int)] x (.int .i64 (eF ⟨K.n,K.b⟩ x j).2) (eF ⟨K.n,K.b⟩ x j).1:=by
 have hz:= @zS B;rcases(by omega:x.S j 0=1\/x.S j 0=2\/x.S j 0=3\/x.S j 0=4\/x.S j 0=5\/x.S j 0=6) with h|h|h|h|h|h<;>simp only[eF,zW,zX,zY,zZ,z5,h,Int.reduceEq,bt,br]
 ·exact uT 9
 ·exact uT 9
 ·exact AS (λg=>uT 1) λg=>uT 1
 ·exact uT 9
 ·refine qe (λg=>uT 99) λg=>AS (λg2=>uT 99) λg2=>?_;have g3:x.A.get (dE ⟨K.n,K.b⟩ ((j:Int)+1))=0:=by omega
  exact uT 99
 ·exact uT 99
theorem Ox(e:K.k=6)(hj:j<K.n)(a:11<=x.S j 0/\x.S j 0<=16):Ct (rD w0 B.z B K) 250 #[some B.lb,.pointer (some ⟨B.sb,j*4,none⟩),((j:Int)+1:Int)] x (.int .i64 (eF ⟨K.n,K.b⟩ x j).2) (eF ⟨K.n,K.b⟩ x j).1:=by
 have hz:= @zS B;rcases(by omega:x.S j 0=11\/x.S j 0=12\/x.S j 0=13\/x.S j 0=14\/x.S j 0=15\/x.S j 0=16) with h|h|h|h|h|h<;>simp only[eF,uQ,uR,px,yF,uS,yG,h,Int.reduceEq,bt,br]
 ·exact AS (λg=>uT 1) λg=>uT 1
 ·exact AS (λg=>uT 9) λg=>have g:=(by simpa using g:x.A.RE K.b ((j:Int)+1)=false);uT 9
 ·exact AS (λg=>uT 1) λg=>uT 1
 ·exact uT 9
 ·exact AS (λg=>uT 2) λg=>uT 2
 ·exact uT 9
theorem Jz{N:Nat}{r q:Int}{a:RX}(e:K.k=6)(hj:j<K.n)(d:x.S j 0=q)(c:N=249/\0<q/\q<10\/N=250/\10<q)(H:Ct (rD w0 B.z B K) N #[some B.lb,.pointer (some ⟨B.sb,j*4,none⟩),((j:Int)+1:Int)] x (.int .i64 r) a):Ct (rD w0 B.z B K) 242 #[some B.lb,j] x (.bool (r==0||r==10)) ⟨a.A,aa a.S j 0 r⟩:=by
 have hz:= @zS B;have f:=fU;have E:= @B4 B K e;have K1:= @LJ w0 B.z B K x j e hj;rw[d] at K1;replace K1:=aH K1;have K8:=aH H;clear H;rcases c with⟨rfl,g1,g2⟩|⟨rfl,g1⟩<;>cases hb:(r==0)<;>exact rW 0
theorem QR(e:K.k=6)(hj:j<K.n)(b:oh (x.S j 0)):Ct (rD w0 B.z B K) 242 #[some B.lb,j] x (.bool (oi ⟨K.n,K.b⟩ x j)) (jC ⟨K.n,K.b⟩ x j):=by
 unfold oi jC;by_cases h:x.S j 0=0\/x.S j 0=10
 ·have a:g6 x j=false:=by unfold g6;rcases h with h|h<;>simp[h]
  rw[a,ac aS,lC];have c:=fU;have E:= @B4 B K e;have K1:= @LJ w0 B.z B K x j e hj;rcases h with h|h<;>rw[h] at K1<;>replace K1:=aH K1<;>exact lD
 ·have a:g6 x j=true:=by unfold g6;simp;omega
  rw[a,ad rfl,gS];unfold oh at b;by_cases q:x.S j 0<10
  ·exact Jz e hj rfl (.inl ⟨rfl,by omega,q⟩) (QO e hj aO)
  ·exact Jz e hj rfl (.inr ⟨rfl,by omega⟩) (Ox e hj aO)
end
def zd.f(B:zd)(M:nJ):FB:=⟨B.lb,B.sb,B.ab,B.wb,M.n,[],[]⟩
def nJ.f(M:nJ):FK:=⟨6,1,M.tail,M.n⟩
section
variable{w w':World}{B:zd}{M:nJ}{X:RX}{j:Nat}
theorem eY.ra(h:eY w B M X):qV (B.f M) M.f w X:=⟨h.box,by simpa[zd.f,nJ.f] using h.row,h.ar,by simp[zd.f],h.Ry,h.tl,by simp[nJ.f]⟩
theorem eY.of(h:qV (B.f M) M.f w X):eY w B M X:=⟨h.box,by simpa[zd.f,nJ.f] using h.row,h.ar,h.Ry,h.b⟩
variable{Z:List Nat}
theorem eY.re(h:eY w B M X)(a:af Z w w')(b:fF w Z){X':lu}(h2:aq w' B.sb (dJ M.n X'.S) 138)(h3:ax w' B.ab B.wb X'.A):eY w' B M X':=
 {box:=h.box.Rr a (b.not h.box),row:=h2,ar:=h3,Ry:=h.Ry,tl:=h.tl}
theorem eY.same(h:eY w B M X)(a:af [] w w'):eY w' B M X:=.of (h.ra.same a)
theorem EQ{N:Nat}{args:Array Value}{r:Value}{c:RX}(h:eY w B M X)(H:Ct (rD w Z (B.f M) M.f) N args X r c):Calls prog N args w λe w'=>e= .returned r/\eY w' B M c/\af Z w w':=(H w ⟨h.ra,aF⟩).mono λe w' ⟨a,b⟩=>⟨a,.of b.1,b.2⟩
theorem LK(h:eY w B M X)(hj:j<M.n):Calls prog 240 #[some B.lb,j] w λe w'=>e= .returned (.agg #[(X.S j 0:Int),(X.S j 1:Int),(X.S j 2:Int),(X.S j 3:Int)])/\af [] w w':=(EQ (Z:=[]) h (LJ rfl hj)).mono λe w' q=>⟨q.1,q.2.2⟩
theorem Ov(h:eY w B M X)(hj:j<M.n):Calls prog 239 #[some B.lb,j] w λe w'=>e= .returned (.bool (ai M.n X.S j 0))/\eY w' B M {X with S:=bo M.n X.S j 0 1}/\af [B.sb] w w':=EQ h (QN rfl (by simp[zd.f]) hj)
theorem ID(h:eY w B M X)(hj:j<M.n)(v:Int):Calls prog 247 #[some B.lb,j,v] w λe w'=>e= .returned (.bool (ai M.n X.S j 10))/\eY w' B M {X with S:=kP M.n X.S j 11 v}/\af [B.sb] w w':=EQ h (QP rfl (by simp[zd.f]) hj v)
theorem LI(h:eY w B M X)(hj:j<M.n)(v:Int):Calls prog 248 #[some B.lb,j,v] w λe w'=>e= .returned (.bool (ai M.n X.S j 10))/\eY w' B M {X with S:=kP M.n X.S j 15 v}/\af [B.sb] w w':=EQ h (QQ rfl (by simp[zd.f]) hj v)
theorem LL(h:eY w B M X)(hj:j<M.n)(a:oh (X.S j 0)):Calls prog 242 #[some B.lb,j] w λe w'=>e= .returned (.bool (oi M X j))/\eY w' B M (jC M X j)/\af [B.sb,B.ab,B.wb] w w':=EQ h (QR rfl hj a)
end
section
variable{w:World}{ab wb:Nat}{A:AR}{n:Nat}
theorem ER(a:ax w ab wb A)(hn:1<=n/\n<=32)(c:A.taken+(2*n+1)<=A.ws.length):Calls prog 90 #[some ab,n] w λe w'=>∃lb sb,e= .returned (.tuple #[some lb,(0:Int)])/\w.heap.size<=lb/\w.heap.size<=sb/\eY w' ⟨lb,sb,ab,wb⟩ ⟨n,A.taken+1⟩ ⟨{A with taken:=A.taken+(2*n+1)},λ_ _=>0⟩/\af [ab,wb] w w':=by
 have r:=iE n aO;have h:=a.room;obtain⟨t1,t2,t3⟩:=kV (A:=A) (k:=2*n+1) c;have g:=fL a (2*(n:Int)+1);rw[show 2*(n:Int)+1=((2*n+1:Nat):Int) by omega,t1,t2,t3,show((2*n+1:Nat):Int)=2*(n:Int)+1 by omega] at g;have o:=aH g;have p:=a.box.lt;have q:=a.row.lt;have f:=aH c;clear a t1 t2 t3 g c;have d1:decide ((n:Int)<1)=false:=aB;have d2:decide ((32:Int)<n)=false:=aB;go_enter func90,ntmps90;go_wp2_with fail;refine gF o.o ?_;rintro w1 ⟨b,l⟩;have d:=aH b;have i:=aH l;clear b l;go_wp2;go_ret2;have c:=f.o;have g1:=aq.new w1 (dJ n (λ_ _=>0)).toArray 138;have g2:=aq.new (w1.alloc (.cells (dJ n (λ_ _=>0)).toArray 138)) #[some ab,((A.taken:Int)+1:Int),.slice (some ⟨w1.heap.size,0,none⟩) n n] 247;have m:af [] w1 ((w1.alloc (.cells (dJ n (λ_ _=>0)).toArray 138)).alloc (.cells #[some ab,((A.taken:Int)+1:Int),.slice (some ⟨w1.heap.size,0,none⟩) n n] 247)):=(aF.alloc _).alloc _;have hs:=i.o.size;refine⟨w1.heap.size+1,w1.heap.size,rfl,by omega,hs,?_,i.o.trans (m.mono aS)⟩;exact{box:=by simpa using g2,row:=by simpa using g1.alloc _,ar:=d.o.Rr m aS aS,Ry:=hn.2,tl:=by show A.taken+1<=4096;omega}
end
theorem dF(a b c d:Int)(W:World):(Instr.field 138 (.agg #[a,b,c,d]) 0).run prog W= .ok (.int .i64 a) W:=by kernel_rfl
theorem yP(a b c d:Int)(W:World):(Instr.field 138 (.agg #[a,b,c,d]) 1).run prog W= .ok (.int .i64 b) W:=by kernel_rfl
section
variable{p:LP}{b:LB p}{w w':World}{lk:Nat}{s s':p.σ}{i:Int}{k:Nat}
theorem tN(h:qU b w lk s):Calls prog 41 #[some lk] w λe w'=>e= .returned p.n/\w=w':=by
 have c1:=h.box.cell (i:=1) rfl;clear h;go_enter func41,ntmps41;go_wp2;go_ret;exact⟨rfl,rfl⟩
theorem wh(h:qU b w lk s)(hi:dO p i):Calls prog 59 #[some lk,i] w λe w'=>e= .returned true/\w=w':=by
 have a:=aH (tN h);have d1:decide (0<=i)=true:=ef hi.1;have d2:decide (i<(p.n:Int))=true:=ef hi.2;clear h hi;go_enter func59,ntmps59;go_wp2_with fail;refine gF a.o ?_;rintro w' rfl;go_wp2;go_ret;exact⟨rfl,rfl⟩
theorem D4(h:b.Ok)(d:p.I k s)(ha:qU b w lk s)(hi:dO p i):Calls prog 42 #[some lk,i] w λe w'=>e= .returned (.bool (p.RD s i))/\qU b w' lk (p.Ru s i)/\af b.Z w w':=by
 have l:=aH (wh ha hi);have g:=aH (h.Sc _ _ _ _ d ha.at_ hi);have m:=aH (λw' s'=>ha.next (w':=w') (s':=s') h);have hm:∀w,(method 437 b.T b.v "Step").run prog w= .ok (b.RR,b.R6) w:=h.RK 433;have n:=h.Se;have c2:=ha.box.cell (i:=2) rfl;clear h d ha hi;go_enter func42,ntmps42;go_wp2_with fail;refine gF l.o ?_;rintro w' rfl;go_wp2_with fail;refine gF g.o ?_;rintro w1 ⟨c,a⟩;have f:=aH (m.o _ _ a c);have j:=aH a;clear c a;go_wp2;go_ret;exact⟨rfl,f.o,j.o⟩
theorem zw(h:b.Ok)(d:p.I k s)(ha:qU b w lk s)(hi:dO p i):Calls prog 45 #[some lk,i] w λe w'=>e= .returned (.bool (p.RZ s i))/\qU b w' lk (p.Rz s i)/\af b.Z w w':=by
 have l:=aH (wh ha hi);have g:=aH (h.RV _ _ _ _ d ha.at_ hi);have m:=aH (λw' s'=>ha.next (w':=w') (s':=s') h);have hm:∀w,(method 437 b.T b.v "Leave").run prog w= .ok (b.RB,b.RM) w:=h.RW 433;have n:=h.R2;have c2:=ha.box.cell (i:=2) rfl;clear h d ha hi;go_enter func45,ntmps45;go_wp2_with fail;refine gF l.o ?_;rintro w' rfl;go_wp2_with fail;refine gF g.o ?_;rintro w1 ⟨c,a⟩;have f:=aH (m.o _ _ a c);have j:=aH a;clear c a;go_wp2;go_ret;exact⟨rfl,f.o,j.o⟩
theorem Js(h:b.Ok)(f:p.I k s)(ha:qU b w lk s)(hi:dO p i)(r:Bool)(a:r=true->p.shares=true):Calls prog 44 #[some lk,i,r] w λe w'=>e= .returned (.bool (p.Sr s i r))/\qU b w' lk (p.R3 s i r)/\af b.Z w w':=by
 have m:=aH (wh ha hi);have j:=aH (h.St _ _ _ _ r f ha.at_ hi a);have n:=aH (λw' s'=>ha.next (w':=w') (s':=s') h);have hm:∀w,(method 437 b.T b.v "Ask").run prog w= .ok (b.Sa,b.Sp) w:=h.Sw 433;have o:=h.SC;have c2:=ha.box.cell (i:=2) rfl;clear h f ha hi a;go_enter func44,ntmps44;go_wp2_with fail;refine gF m.o ?_;rintro w' rfl;go_wp2_with fail;refine gF j.o ?_;rintro w1 ⟨d,c⟩;have g:=aH (n.o _ _ c d);have l:=aH c;clear d c;go_wp2;go_ret;exact⟨rfl,g.o,l.o⟩
theorem Hz(h:b.Ok)(ha:qU b w lk s)(hi:dO p i):Calls prog 43 #[some lk,i] w λe w'=>e= .returned (p.Ta s i:Int)/\af [] w w':=by
 have g:=aH (wh ha hi);have d:=aH (h.SG _ _ _ ha.at_ hi);have hm:∀w,(method 437 b.T b.v "Count").run prog w= .ok (b.RL,b.R0) w:=h.SL 433;have j:=h.SH;have c2:=ha.box.cell (i:=2) rfl;clear h ha hi;have c:= @aX prog;go_enter func43,ntmps43;go_wp2_with fail;refine gF g.o ?_;rintro w' rfl;go_wp2_with fail;refine gF d.o ?_;rintro w1 a;have f:=aH a;clear a;go_wp2;go_ret;exact⟨rfl,f.o⟩
theorem D3(h:b.Ok)(ha:qU b w lk s)(hi:dO p i):Calls prog 60 #[some lk,i] w λe w'=>e= .returned (gG p s i)/\af [] w w':=by
 have j:af [] w (w.alloc (.cells #[(0:Int),(0:Int),(0:Int),(0:Int)] 138)):=aF.alloc _;have q:aq (w.alloc (.cells #[(0:Int),(0:Int),(0:Int),(0:Int)] 138)) w.heap.size [(0:Int),(0:Int),(0:Int),(0:Int)] 138:=aq.new w _ _;have h2:=ha.same h j;have u:=aH (wh h2 hi);have n:=h.R8 _ _ _ h2.at_ hi;have hm:∀w,(method 437 b.T b.v "Spot").run prog w= .ok (b.RO,b.R5) w:=h.R7 433;have C:=h.R9;have c2:=h2.box.cell (i:=2) rfl;have r:= @aX prog;unfold gG at n⊢;generalize p.sp s i 0=a at*;generalize p.sp s i 1=b1 at*;generalize p.sp s i 2=c at*;generalize p.sp s i 3=d at*;have t:=aH n;have l:=aH q;have m:=aH j;clear h ha hi h2 n q j;go_enter func60,ntmps60;go_wp2_with fail;refine gF u.o ?_;rintro w' rfl;go_wp2_with fail;refine gF t.o ?_;rintro w1 o;have f:=l.o.Rr o aS;have b0:=f.cell (i:=0) rfl;have x:=f.cell (i:=1) rfl;have B:=f.cell (i:=2) rfl;have b3:=f.cell (i:=3) rfl;have bz:=f.frozen;have y:=f.lt;have g:=aH (show aq ((((w1.setCell (w.heap.size,0) (.int .i64 a)).setCell (w.heap.size,1) (.int .i64 b1)).setCell (w.heap.size,2) (.int .i64 c)).setCell (w.heap.size,3) (.int .i64 d)) w.heap.size [a,b1,c,d] 138/\af [] w ((((w1.setCell (w.heap.size,0) (.int .i64 a)).setCell (w.heap.size,1) (.int .i64 b1)).setCell (w.heap.size,2) (.int .i64 c)).setCell (w.heap.size,3) (.int .i64 d)) from⟨(((f.set 0 (.int .i64 a)).set 1 (.int .i64 b1)).set 2 (.int .i64 c)).set 3 (.int .i64 d),((((m.o.trans o).set _ _ (.inr (ba _))).set _ _ (.inr (ba _))).set _ _ (.inr (ba _))).set _ _ (.inr (ba _))⟩);clear o f;go_wp2_with fail;generalize(((w1.setCell (w.heap.size,0) (.int .i64 a)).setCell (w.heap.size,1) (.int .i64 b1)).setCell (w.heap.size,2) (.int .i64 c)).setCell (w.heap.size,3) (.int .i64 d)=A at*;have z:=g.o.1.cell (i:=0) rfl;have k1:=g.o.1.cell (i:=1) rfl;have k2:=g.o.1.cell (i:=2) rfl;have k3:=g.o.1.cell (i:=3) rfl;exact eO (v:=.agg #[a,b1,c,d]) (by simp[results,results60,go_sem,z,k1,k2,k3]) rfl ⟨rfl,g.o.2⟩
theorem zx(h:b.Ok)(ha:qU b w lk s)(hi:dO p i):Calls prog 46 #[some lk,i] w λe w'=>e= .returned (p.st s i:Int)/\af [] w w':=by
 have c:=D3 h ha hi;have l:=dF;unfold gG at c;unfold LP.st;generalize p.sp s i 0=q at*;have g:=aH c;clear h ha hi c;have j:(q=0/\fS q=0)\/((q==0)=false/\decide (q<10)=true/\fS q=1)\/(q=10/\fS q=2)\/((q==0)=false/\decide (q<10)=false/\(q==10)=false/\fS q=3):=by
  unfold fS;by_cases a:q=0
  ·left;exact⟨a,ad a⟩
  ·right;by_cases h1:q<10
   ·left;exact⟨by simpa using a,by simpa using h1,by rw[ac a,ad h1]⟩
   ·right;by_cases h2:q=10
    ·left;exact⟨h2,by rw[ac a,ac h1,ad h2]⟩
    ·right;exact⟨by simpa using a,by simpa using h1,by simpa using h2,by rw[ac a,ac h1,ac h2]⟩
 rcases j with⟨rfl,hv⟩|⟨d0,d1,hv⟩|⟨rfl,hv⟩|⟨d0,d1,d2,hv⟩;all_goals
  rw[hv];clear hv;go_enter func46,ntmps46;go_wp2_with fail;refine gF g.o ?_;rintro w1 d;have f:=aH d;clear d;go_wp2;go_ret;exact⟨rfl,f.o⟩
theorem H1(h:b.Ok)(ha:qU b w lk s)(hi:dO p i):Calls prog 47 #[some lk,i] w λe w'=>e= .returned (.bool (p.rd s i))/\af [] w w':=by
 have f:=aH (zx h ha hi);have HP:=aH (λ(W:World) (j:af [] w W)=>D3 h (ha.same h j) hi);have m:=aH h.shares;have l:=aH (λ(W:World) (j:af [] w W)=>(ha.same h j).box);have o:=yP;unfold gG at HP;unfold LP.rd;generalize p.st s i=st at*;generalize p.sp s i 1=q at*;generalize p.shares=sh at*;clear h ha hi;have n:(st=0)\/((st==0)=false/\(st !=0)=true):=by
  by_cases g:st=0
  ·exact .inl g
  ·exact .inr ⟨by simpa using g,by simpa using g⟩
 rcases n with rfl|⟨d0,d1⟩
 ·go_enter func47,ntmps47;go_wp2_with fail;refine gF f.o ?_;rintro w1 a;have c:=aH a;clear a;go_wp2;go_ret;exact⟨rfl,c.o⟩
 ·rw[d0];cases sh with
  |false=>
   go_enter func47,ntmps47;go_wp2_with fail;refine gF f.o ?_;rintro w1 a;have c:=aH a;have c0:=(l.o _ a).cell (i:=0) rfl;clear a;go_wp2_with fail;refine gF (m.o _) ?_;rintro w' rfl;go_wp2;go_ret;exact⟨rfl,c.o⟩
  |true=>
   go_enter func47,ntmps47;go_wp2_with fail;refine gF f.o ?_;rintro w1 a;have c:=aH a;have c0:=(l.o _ a).cell (i:=0) rfl;clear a;go_wp2_with fail;refine gF (m.o _) ?_;rintro w' rfl;go_wp2_with fail;refine gF (HP.o _ c.o) ?_;rintro w2 a;have d:=aH (c.o.trans a);clear a;go_wp2;go_ret;exact⟨rfl,d.o⟩
end
theorem gQ{b1 S:Nat}{u:Value}{T:List Int}(j:aZ w b1 v P)(C:aZ w S u T)(hs:ea P T):
 Calls prog 39 #[.agg #[v,u]] w λe w'=>∃tb,e= .returned (.tuple #[some tb,(0:Int)])/\w.heap.size<=tb/\sO w' tb P T/\af [] w w':=by
 obtain⟨s1,s2,s3,s4⟩:=hs.size;have N:=aH (λ(W:World) (l:af [] w W)=>mx W (j.Rr l aS) (C.Rr l aS) hs);have Q:=aH (λ(W:World) (l:af [] w W)=>oE (j.Rr l aS) s1 aO);have R:=aH (λ(W:World) (l:af [] w W)=>oE (C.Rr l aS) s3 aO);have I:=aq.new w #[v,u] 24;have M:=aH I;have n:=aH ((af.refl [] w).alloc (.cells #[v,u] 24));obtain⟨a,cap,rfl,h1, -⟩:=j;obtain⟨Z,F,rfl,h2, -⟩:=C;clear I hs;go_enter func39,ntmps39;go_wp2_with fail;refine gF (N.o _ n.o) ?_;rintro w1 c;have d:=aH (n.o.trans c);have m:=aH (M.o.Rr c aS);clear c;have X:=aW [] w1;have D:=zF (L:=[]) m.o aS 0 rfl;have E:=zF (L:=[]) m.o aS 1 rfl;go_wp2_with fail;refine aG (λY=>af [] w1 Y) ?_;refine eQ (fuel:=7) [0,1,3,4] rfl aF.Rs ?_;refine aL 2 (fuel:=6) rfl ?_;go_wp2_with fail;refine(Q.o _ (d.o.Rs)).mono ?_;rintro e w2 ⟨p,rfl,o,c⟩;have J:=c.size;have q:P≠[]:=by intro h;rw[h] at s1;simp at s1
 obtain⟨gp,U,A, -⟩:=IR.SN q o;have HP:=aH A;have i:=aH (((af.refl [] w1).Rs).trans c);clear o c;go_wp2_with fail;refine ah ⟨i.o,?_⟩;refine aL 5 (fuel:=5) rfl ?_;go_wp2_with fail;refine(R.o _ (d.o.trans i.o)).mono ?_;rintro e w3 ⟨t,rfl,o,c⟩;have r:T≠[]:=by intro h;rw[h] at s3;simp at s3
 obtain⟨gt,V,ht, -⟩:=IR.SN r o;have O:=aH ht;have s:=aH (HP.o.Rr c aS);have b:=aH (i.o.trans c);have B:=(d.o.trans b.o).size;obtain⟨f,G,x, -⟩:=id A;obtain⟨g,H,z, -⟩:=id ht;subst x z;clear o c A ht D E;go_wp2_with fail;refine ah ⟨b.o,?_⟩;refine eQ (fuel:=3) [6,7] rfl b.o ?_;refine aL 8 (fuel:=2) rfl ?_;go_wp2_with fail;refine ah ⟨b.o.alloc _,?_⟩;refine eQ (fuel:=0) [9,10] rfl (b.o.alloc _) ?_;refine aN ?_;go_wp2;go_ret2;have hn:=aq.new w3 #[.slice (some ⟨gp,0,none⟩) P.length f,.slice (some ⟨gt,0,none⟩) T.length g,.int .u32 0,.int .i32 0,.int .u32 0,.slice none 0 0,.slice none 0 0,.slice none 0 0,.slice none 0 0] 136;have j:af [] w3 (w3.alloc (.cells #[.slice (some ⟨gp,0,none⟩) P.length f,.slice (some ⟨gt,0,none⟩) T.length g,.int .u32 0,.int .i32 0,.int .u32 0,.slice none 0 0,.slice none 0 0,.slice none 0 0,.slice none 0 0] 136)):=aF.alloc _;exact⟨w3.heap.size,rfl,B,⟨_,_,gp,gt,hn,s.o.Rr j aS,O.o.Rr j aS⟩,(d.o.trans b.o).trans j⟩
section
variable{w w':World}{B:CB}{K:CK}{S:CS}
theorem J5(h:bg w B K S){th:Nat}(hj:th<K.n):Calls prog 226 #[some B.cb,th] w λe w'=>e= .returned (.tuple #[.agg #[some (B.fb (K.nd th)),(K.cn (K.nd th):Int)],(K.nd th:Int),(K.sl th:Int)])/\af [] w w':=by
 have hv:=h.Th hj;have C:af [] w (w.alloc (.cells #[.pointer none,(0:Int)] 203)):=aF.alloc _;have F:=aq.new w #[.pointer none,(0:Int)] 203;have h2:=h.same C;have A:=aH (iI h2.Sj hj);have m:=aH (λ(W:World) (u:af [] (w.alloc (.cells #[.pointer none,(0:Int)] 203)) W)=>Af (h2.same u).Sj hj);have b:=aH F;have I:B.nb<w.heap.size:=by
  obtain⟨cells,hn,_⟩:=h.Sh;exact hn.lt
 have g:=aH h2;have x:=aH C;have c1:=h2.box.cell (i:=1) rfl;obtain⟨v,d⟩:∃v,v=K.nd th:=⟨_,rfl⟩
 obtain⟨sl,j⟩:∃s,s=K.sl th:=⟨_,rfl⟩
 have D:(mS K.P (K.T[th]?.getD 0))=v:=by rw[d];rfl
 have E:((K.T.take th).count (K.T[th]?.getD 0))=sl:=by rw[j];rfl
 rw[D] at A;rw[E] at m;rw[<-d,<-j];rw[<-d] at hv;clear h D E d j F C h2;go_enter func226,ntmps226;go_wp2_with fail;refine gF A.o ?_;rintro w' rfl;clear c1 A;obtain⟨bn,n⟩:∃bn,bn=w.heap.size:=⟨_,rfl⟩
 rw[<-n] at b⊢;have J:w.heap.size<=bn:=by omega
 clear n;generalize w.alloc (.cells #[.pointer none,(0:Int)] 203)=W at*;have p:∀a,af [bn] W a->a.cell? (B.cb,1)=some (.pointer (some ⟨B.tb,0,none⟩))/\a.cell? (B.cb,7)=some (.slice (some ⟨B.nb,0,none⟩) K.E B.Ud)/\a.cell? (B.nb,v*2)=some (.pointer (some ⟨B.fb v,0,none⟩))/\a.cell? (B.nb,v*2+1)=some (.int .i64 (K.cn v)):=by
  intro a u;obtain⟨cells,hn,H⟩:=g.o.Sh;have n1:=b.o.differ g.o.box aJ;have U:bn≠B.nb:=by omega
  have G:=g.o.box.Rr u aQ;have r:=hn.Rr u aQ;exact⟨G.cell (i:=1) rfl,G.cell (i:=7) rfl,r.cell (H v hv).1,r.cell (H v hv).2⟩
 have c:=aH p;clear p;have L:=aW [bn] W;have N:∀q:HW (λa=>af [bn] W a),q.w.cell? (B.cb,1)=some (.pointer (some ⟨B.tb,0,none⟩)):=λq=>(c.o q.w q.h).1;have O:∀q:HW (λa=>af [bn] W a),q.w.cell? (B.cb,7)=some (.slice (some ⟨B.nb,0,none⟩) K.E B.Ud):=λq=>(c.o q.w q.h).2.1;have P:∀q:HW (λa=>af [bn] W a),q.w.cell? (B.nb,v*2)=some (.pointer (some ⟨B.fb v,0,none⟩)):=λq=>(c.o q.w q.h).2.2.1;have Q:∀q:HW (λa=>af [bn] W a),q.w.cell? (B.nb,v*2+1)=some (.int .i64 (K.cn v)):=λq=>(c.o q.w q.h).2.2.2;have l1:(v:Int)<K.E:=by omega
 go_wp2_with fail;refine aG (λa=>af [bn] W a) ?_;refine eQ (fuel:=4) [0,1,2,3,4,5,6,7,8,9,10,11,12] rfl aF.Rs ?_;refine aL 13 (fuel:=3) rfl ?_;go_wp2_with fail;refine gF (m.o _ ((af.refl [] W).Rs)) ?_;rintro w' rfl;go_wp2_with fail;refine ah ⟨aF.Rs,?_⟩;have b0:=b.o.cell (i:=0) rfl;have b1:=b.o.cell (i:=1) rfl;have bz:=b.o.frozen;refine aL 14 (fuel:=2) rfl ?_;go_wp2_with fail;have t:af [bn] W ((W.setCell (bn,0) (.pointer (some ⟨B.fb v,0,none⟩))).setCell (bn,1) (.int .i64 (K.cn v))).drew:=(aU.set _ _ (.inl aS)).Rs;have o:=((b.o.set 0 (.pointer (some ⟨B.fb v,0,none⟩))).set 1 (.int .i64 (K.cn v))).Rs;have f:=aH t;have l:=aH o;clear t o;refine ah ⟨f.o,?_⟩;generalize((W.setCell (bn,0) (.pointer (some ⟨B.fb v,0,none⟩))).setCell (bn,1) (.int .i64 (K.cn v))).drew=T at*;refine eQ (fuel:=0) [15,16] rfl f.o ?_;refine aN ?_;have R:=l.o.cell (i:=0) rfl;have k1:=l.o.cell (i:=1) rfl;go_wp2_with fail;refine eO (v:=.tuple #[.agg #[some (B.fb v),(K.cn v:Int)],v,sl]) (by simp[results,results226,go_sem,R,k1]) rfl ⟨rfl,?_⟩;exact x.o.Rx f.o (λz M=>.inr (by simp at M;omega))
end
section
variable{w w':World}{B:CB}{K:CK}{S:CS}
theorem L3{w:World}{B:CB}{K:CK}{S:CS}{a:AR}{v:Nat}(h:bg w B K {S with A:=a,LS:=dL S.LS v (S.LS v)}):bg w B K {S with A:=a}:=by
 have e:dL S.LS v (S.LS v)=S.LS:=by
  funext u
  unfold dL
  split
  ·rename_i e;rw[e]
  ·rfl
 rw[e] at h;exact h
theorem Jj(n a b:Int)(w:World):Calls prog 102 #[n,a,b] w λe w'=>e= .returned (.bool (decide (a<=n)&&decide (n<=b)))/\w=w':=by
 by_cases h1:a<=n
 ·have d1:decide (a<=n)=true:=by simpa using h1
  rw[d1,gS];cases d2:decide (n<=b)
  all_goals
   go_enter func102,ntmps102;go_wp2;go_ret;exact⟨rfl,rfl⟩
 ·have d1:decide (a<=n)=false:=by simpa using h1
  rw[d1,lC];go_enter func102,ntmps102;go_wp2;go_ret;exact⟨rfl,rfl⟩
theorem jQ(b:Int)(w:World):Calls prog 85 #[b] w λe w'=>e= .returned (.bool (decide (0<=b)&&decide (b<=1000)))/\w=w':=by
 have HI:=aH (Jj b 0 1000 w);generalize(decide ((0:Int)<=b)&&decide (b<=1000))=r at*;go_enter func85,ntmps85;go_wp2_with fail;refine gF HI.o ?_;rintro w' rfl;go_wp2;go_ret;exact⟨rfl,rfl⟩
def So(c b:Int)(al:Bool):Bool:=(decide (0<=b)&&decide (b<=1000))&&(decide (1<=c)&&decide (c<=b))&& !al
theorem AC(c b:Int)(al:Bool)(w:World):Calls prog 229 #[c,b,al] w λe w'=>e= .returned (.bool (So c b al))/\w=w':=by
 have a:=aH (jQ b w);have HI:=aH (Jj c 1 b w);unfold So;have d:= @aX prog;generalize(decide ((0:Int)<=b)&&decide (b<=1000))=r at*;generalize(decide ((1:Int)<=c)&&decide (c<=b))=q at*;cases r
 ·go_enter func229,ntmps229;go_wp2_with fail;refine gF a.o ?_;rintro w' rfl;go_wp2;go_ret;exact⟨rfl,rfl⟩
 ·cases q
  all_goals
   go_enter func229,ntmps229;go_wp2_with fail;refine gF a.o ?_;rintro w' rfl;go_wp2_with fail;refine gF HI.o ?_;rintro w' rfl;go_wp2;go_ret;exact⟨rfl,rfl⟩
theorem dt:(∀{w:World}{B:CB}{K:CK}{S:CS}(h:bg w B K S){th:Nat}(hj:th<K.n)(o:S.TS th 0=11)(Q:K.bud<S.A.get ((K.cn (K.nd th):Nat):Int)),Calls prog 228 #[some B.cb,th] w λe w'=>e= .returned (14:Int)/\bg w' B K ({S with A:=S.A.load ((K.cn (K.nd th):Nat):Int),TS:=aa S.TS th 1 (S.A.get ((K.cn (K.nd th):Nat):Int))})/\af (CZ B K) w w')/\(∀{w:World}{B:CB}{K:CK}{S:CS}(h:bg w B K S){th:Nat}(hj:th<K.n)(o:S.TS th 0=11)(Q:¬K.bud<S.A.get ((K.cn (K.nd th):Nat):Int)),Calls prog 228 #[some B.cb,th] w λe w'=>e= .returned (12:Int)/\bg w' B K ({S with A:=S.A.load ((K.cn (K.nd th):Nat):Int),TS:=aa S.TS th 1 (S.A.get ((K.cn (K.nd th):Nat):Int))})/\af (CZ B K) w w')/\(∀{w:World}{B:CB}{K:CK}{S:CS}(h:bg w B K S){th:Nat}(hj:th<K.n)(o:S.TS th 0=12)(G:So (S.TS th 1) K.bud (qa (K.L (K.nd th)) (S.LS (K.nd th)) S.A ((K.sl th:Nat):Int))=true),Calls prog 228 #[some B.cb,th] w λe w'=>e= .returned (13:Int)/\bg w' B K ({S with A:=p9 (K.L (K.nd th)) (S.LS (K.nd th)) S.A ((K.sl th:Nat):Int)})/\af (CZ B K) w w')/\(∀{w:World}{B:CB}{K:CK}{S:CS}(h:bg w B K S){th:Nat}(hj:th<K.n)(o:S.TS th 0=12)(G:So (S.TS th 1) K.bud (qa (K.L (K.nd th)) (S.LS (K.nd th)) S.A ((K.sl th:Nat):Int))=false),Calls prog 228 #[some B.cb,th] w λe w'=>e= .returned (14:Int)/\bg w' B K ({S with A:=p9 (K.L (K.nd th)) (S.LS (K.nd th)) S.A ((K.sl th:Nat):Int)})/\af (CZ B K) w w')/\(∀{w:World}{B:CB}{K:CK}{S:CS}(h:bg w B K S){th:Nat}(hj:th<K.n)(o:S.TS th 0=15)(Y:K.G.k=4->jn K.G.n S.GS)(G:cN K.G S.GS S.A ((K.nd th:Nat):Int)=true),Calls prog 228 #[some B.cb,th] w λe w'=>e= .returned (16:Int)/\bg w' B K ({S with A:=bL K.G S.GS S.A ((K.nd th:Nat):Int),GS:=bM K.G S.GS S.A ((K.nd th:Nat):Int),LS:=dL S.LS (K.nd th) (dp (K.L (K.nd th)) (S.LS (K.nd th)) ((K.sl th:Nat):Int))})/\af (CZ B K) w w')/\(∀{w:World}{B:CB}{K:CK}{S:CS}(h:bg w B K S){th:Nat}(hj:th<K.n)(o:S.TS th 0=15)(Y:K.G.k=4->jn K.G.n S.GS)(G:cN K.G S.GS S.A ((K.nd th:Nat):Int)=false),Calls prog 228 #[some B.cb,th] w λe w'=>e= .returned (15:Int)/\bg w' B K ({S with A:=bL K.G S.GS S.A ((K.nd th:Nat):Int),GS:=bM K.G S.GS S.A ((K.nd th:Nat):Int)})/\af (CZ B K) w w')/\(∀{w:World}{B:CB}{K:CK}{S:CS}(h:bg w B K S){th:Nat}(hj:th<K.n)(o:S.TS th 0=16)(Z:∀v,v<K.E->(K.L v).k=4->jn (K.L v).n (S.LS v))(G:cN (K.L (K.nd th)) (S.LS (K.nd th)) S.A ((K.sl th:Nat):Int)=true),Calls prog 228 #[some B.cb,th] w λe w'=>e= .returned (0:Int)/\bg w' B K ({S with A:=bL (K.L (K.nd th)) (S.LS (K.nd th)) S.A ((K.sl th:Nat):Int),LS:=dL S.LS (K.nd th) (bM (K.L (K.nd th)) (S.LS (K.nd th)) S.A ((K.sl th:Nat):Int))})/\af (CZ B K) w w')/\(∀{w:World}{B:CB}{K:CK}{S:CS}(h:bg w B K S){th:Nat}(hj:th<K.n)(o:S.TS th 0=16)(Z:∀v,v<K.E->(K.L v).k=4->jn (K.L v).n (S.LS v))(G:cN (K.L (K.nd th)) (S.LS (K.nd th)) S.A ((K.sl th:Nat):Int)=false),Calls prog 228 #[some B.cb,th] w λe w'=>e= .returned (16:Int)/\bg w' B K ({S with A:=bL (K.L (K.nd th)) (S.LS (K.nd th)) S.A ((K.sl th:Nat):Int),LS:=dL S.LS (K.nd th) (bM (K.L (K.nd th)) (S.LS (K.nd th)) S.A ((K.sl th:Nat):Int))})/\af (CZ B K) w w')/\(∀{w:World}{B:CB}{K:CK}{S:CS}(h:bg w B K S){th:Nat}(hj:th<K.n)(o:S.TS th 0=13),Calls prog 228 #[some B.cb,th] w λe w'=>e= .returned (16:Int)/\bg w' B K ({S with A:=S.A.store ((K.cn (K.nd th):Nat):Int) (wrap64 (S.TS th 1+1)),LS:=dL S.LS (K.nd th) (dp (K.L (K.nd th)) (S.LS (K.nd th)) ((K.sl th:Nat):Int))})/\af (CZ B K) w w')/\(∀{w:World}{B:CB}{K:CK}{S:CS}(h:bg w B K S){th:Nat}(hj:th<K.n)(o:S.TS th 0=14),Calls prog 228 #[some B.cb,th] w λe w'=>e= .returned (15:Int)/\bg w' B K ({S with A:=S.A.store ((K.cn (K.nd th):Nat):Int) 0,GS:=dp K.G S.GS ((K.nd th:Nat):Int)})/\af (CZ B K) w w'):=by
 refine⟨?_,?_,?_,?_,?_,?_,?_,?_,?_,?_⟩;iterate 2
  intro w B K S h th hj o Q;rotate_left
 iterate 2
  intro w B K S h th hj o G;rotate_left
 iterate 2
  intro w B K S h th hj o Y G;rotate_left
 iterate 2
  intro w B K S h th hj o Z G;rotate_left
 iterate 2
  intro w B K S h th hj o;rotate_left
 all_goals
  have HJ:=aH hj;have hn32:=h.Ry;have HV:=aH (h.Th hj);have HOF:=aH (J5 h hj);have c8:=h.box.cell (i:=8) rfl;have l1:(th:Int)<K.n:=by omega
  have H:=aH h;have H0:=aH o
 obtain⟨x,p⟩:∃x,S.A.get ((K.cn (K.nd th):Nat):Int)=x:=⟨_,rfl⟩
 rw[p] at Q⊢;have HX:=aH p;have dx:decide (K.bud<x)=true:=by simpa using Q
 clear p;rotate_left;obtain⟨x,p⟩:∃x,S.A.get ((K.cn (K.nd th):Nat):Int)=x:=⟨_,rfl⟩
 rw[p] at Q⊢;have HX:=aH p;have dx:decide (K.bud<x)=false:=by simpa using Q
 clear p;rotate_left;iterate 6
  have R:=aH G;clear G;rotate_left
 rotate_left 2;all_goals
  clear h o hj;go_enter func228,ntmps228;go_wp2_with fail;refine gF HOF.o ?_;rintro w1 c;have O:af [] w1 (w1.alloc (.cells #[some (B.fb (K.nd th)),(K.cn (K.nd th):Int)] 203)):=aF.alloc _;have M:=aq.new w1 #[some (B.fb (K.nd th)),(K.cn (K.nd th):Int)] 203;have T:=H.o.same (c.trans O);have k0:=T.p0 HJ.o;rw[H0.o] at k0;have k1:=T.p HJ.o (t:=1) aO;have b0:=M.cell (i:=0) rfl;have b1:=M.cell (i:=1) rfl;have d6:=T.box.cell (i:=6) rfl;have E:=aH (c.trans O);have f:=aH M;have a:=aH T;have hbw:w.heap.size<=w1.heap.size:=c.size;clear O M T c;go_wp2_with fail;generalize w1.alloc (.cells #[some (B.fb (K.nd th)),(K.cn (K.nd th):Int)] 203)=W at*
 iterate 2
  focus
   obtain⟨bn,g⟩:∃bn,bn=w1.heap.size:=⟨_,rfl⟩
   rw[<-g] at f b0 b1;rw[<-g];clear g;have u:=aW [B.cs,B.ab,B.wb] W;have C:=zF (L:=[B.cs,B.ab,B.wb]) a.o.box (((a.o.mut.sub (Z':=[B.cs,B.ab,B.wb]) (λz d=>a8.2 (by simp at d;omega))).not a.o.box)) 0 rfl;have D:=zF (L:=[B.cs,B.ab,B.wb]) f.o (((a.o.mut.sub (Z':=[B.cs,B.ab,B.wb]) (λz d=>a8.2 (by simp at d;omega))).not f.o)) 1 rfl;refine aG (λr=>af [B.cs,B.ab,B.wb] W r) ?_;refine eQ (fuel:=4) [0,1,2,3,4,5,6] rfl aF.Rs ?_;refine aL 7 (fuel:=3) rfl ?_;go_wp2_with fail;refine(fh ((a.o.same ((af.refl [] W).Rs)).ar) ((K.cn (K.nd th):Nat):Int)).mono ?_;rw[HX.o];rintro e w2 ⟨rfl,N,c⟩;have b:=aH (((af.refl [B.ab,B.wb] W).Rs).trans c);have j:=aH (a.o.R1 b.o N);have j1:=j.o.p HJ.o (t:=1) aO;have jz:=j.o.row.frozen;clear N c;go_wp2_with fail;refine ah ⟨b.o.mono aS,?_⟩;refine eQ (fuel:=1) [8,9] rfl (b.o.mono aS) ?_;refine aL 10 (fuel:=0) rfl ?_;go_wp2_with fail;refine ah ⟨(b.o.mono (S':=[B.cs,B.ab,B.wb]) aS).set _ _ (.inl aS),?_⟩;refine aN ?_;have I:=aH (j.o.put th (t:=1) aO x);have HFE:=aH (((b.o.mono (S':=[B.cs,B.ab,B.wb]) aS).set ⟨B.cs,th*4+1,none⟩ (.int .i64 x) (.inl aS)).mono (S':=CZ B K) (λz d=>a8.2 (by simp at d;omega)));clear j1 jz u C D j b b0 b1 k0 k1 d6;generalize w2.setCell (B.cs,th*4+1) (.int .i64 x)=W3 at*;have e1:W3.cell? (B.cs,th*4+1)=some (.int .i64 x):=(I.o.p HJ.o (t:=1) aO).trans (by simp[aa]);have e0:=I.o.p0 HJ.o;have g5:=I.o.box.cell (i:=5) rfl;go_wp2_with fail
   go_quiet (fail)
  rotate_left
 iterate 2
  focus
   obtain⟨bn,g⟩:∃bn,bn=w1.heap.size:=⟨_,rfl⟩
   rw[<-g] at f b0 b1;rw[<-g];clear g;have u:=aW [B.sb (K.nd th),B.ab,B.wb] W;have C:∀q:HW (λr=>af [B.sb (K.nd th),B.ab,B.wb] W r),q.w.cell? (B.cb,5)=some (.int .i64 K.bud):=λq=>(a.o.box.Rr q.h (((a.o.mut.sub (Z':=[B.sb (K.nd th),B.ab,B.wb]) (λz d=>a8.2 (by
    simp at d;rcases d with e|e|e
    ·exact .inr (.inr (.inr (.inr ⟨_,HV.o,e.symm⟩)))
    ·omega
    ·omega))).not a.o.box))).cell (i:=5) rfl
   have D:∀q:HW (λr=>af [B.sb (K.nd th),B.ab,B.wb] W r),q.w.cell? (bn,0)=some (.pointer (some ⟨B.fb (K.nd th),0,none⟩)):=λq=>(f.o.Rr q.h (((a.o.mut.sub (Z':=[B.sb (K.nd th),B.ab,B.wb]) (λz d=>a8.2 (by
    simp at d;rcases d with e|e|e
    ·exact .inr (.inr (.inr (.inr ⟨_,HV.o,e.symm⟩)))
    ·omega
    ·omega))).not f.o))).cell (i:=0) rfl
   have V:∀q:HW (λr=>af [B.sb (K.nd th),B.ab,B.wb] W r),q.w.cell? (B.cs,th*4+1)=some (.int .i64 (S.TS th 1)):=λq=>(a.o.row.Rr q.h (by have:=a.o.row.differ a.o.ar.box aJ;have:=a.o.row.differ a.o.ar.row aJ;have:=a.o.Sg.2.1 _ HV.o;simp;omega)).cell (a9 K.n S.TS HJ.o aO);refine aG (λr=>af [B.sb (K.nd th),B.ab,B.wb] W r) ?_;refine eQ (fuel:=2) [0,1,2,3,4,5,6,7,8,9,10,11] rfl aF.Rs ?_;refine aL 12 (fuel:=1) rfl ?_;go_wp2_with fail;refine gF (x9 ((a.o.same ((af.refl [] W).Rs)).loc _ HV.o) ((K.sl th:Nat):Int)) ?_;rintro w2 ⟨l,c⟩;have b:=aH (((af.refl [B.sb (K.nd th),B.ab,B.wb] W).Rs).trans c);have j:=aH (a.o.local HV.o b.o l);clear l c;go_wp2_with fail;refine ah ⟨b.o,?_⟩;refine aL 13 (fuel:=0) rfl ?_;go_wp2_with fail;refine(AC _ _ _ _).mono ?_;rw[R.o];rintro e w' ⟨rfl,rfl⟩;go_wp2_with fail;refine ah ⟨b.o,?_⟩;refine aN ?_;have J:=aH (b.o.mono (S':=CZ B K) (λz d=>a8.2 (by
    simp at d;rcases d with e|e|e
    ·exact .inr (.inr (.inr (.inr ⟨_,HV.o,e.symm⟩)))
    ·omega
    ·omega)))
  rotate_left
 focus
  refine(fw (a.o.Sf) Y ((K.nd th:Nat):Int)).mono ?_;rw[R.o];rintro e w2 ⟨rfl,l,c⟩;have j:=aH (a.o.S6 (c) l);have m:=aH (c.mono (S':=CZ B K) (λz d=>a8.2 (by simp at d;omega)));clear l c;have m0:=(f.o.Rr m.o ((a.o.mut).not f.o)).cell (i:=0) rfl;go_wp2_with fail;refine gF (kG ((j.o.loc _ HV.o)) ((K.sl th:Nat):Int)) ?_;rintro w4 ⟨l,c⟩;have I:=aH (j.o.local HV.o (c.mono aS) l);have s:=aH (c.mono (S':=CZ B K) (λz d=>a8.2 (by
   simp at d;have e:=d;exact .inr (.inr (.inr (.inr ⟨_,HV.o,e.symm⟩)))
   )))
  clear l c
 rotate_left;refine(fw (a.o.Sf) Y ((K.nd th:Nat):Int)).mono ?_;rw[R.o];rintro e w2 ⟨rfl,l,c⟩;have j:=aH (a.o.S6 (c) l);have m:=aH (c.mono (S':=CZ B K) (λz d=>a8.2 (by simp at d;omega)));clear l c;have kp:=j.o.p0 HJ.o;have X:=H0.o;rw[show S.TS th 0=_ from X] at kp;clear X;rotate_left
 focus
  refine(fw ((a.o.loc _ HV.o)) (Z _ HV.o) ((K.sl th:Nat):Int)).mono ?_;rw[R.o];rintro e w2 ⟨rfl,l,c⟩;have j:=aH (a.o.local HV.o (c) l);have m:=aH (c.mono (S':=CZ B K) (λz d=>a8.2 (by
   simp at d;rcases d with e|e|e
   ·exact .inr (.inr (.inr (.inr ⟨_,HV.o,e.symm⟩)))
   ·omega
   ·omega)))
  clear l c
 rotate_left
 focus
  refine(fw ((a.o.loc _ HV.o)) (Z _ HV.o) ((K.sl th:Nat):Int)).mono ?_;rw[R.o];rintro e w2 ⟨rfl,l,c⟩;have j:=aH (a.o.local HV.o (c) l);have m:=aH (c.mono (S':=CZ B K) (λz d=>a8.2 (by
   simp at d;rcases d with e|e|e
   ·exact .inr (.inr (.inr (.inr ⟨_,HV.o,e.symm⟩)))
   ·omega
   ·omega)))
  clear l c;have kp:=j.o.p0 HJ.o;have X:=H0.o;rw[show S.TS th 0=_ from X] at kp;clear X
 rotate_left
 focus
  obtain⟨bn,g⟩:∃bn,bn=w1.heap.size:=⟨_,rfl⟩
  rw[<-g] at f b0 b1;rw[<-g];clear g;have u:=aW [B.ab,B.wb] W;have C:=zF (L:=[B.ab,B.wb]) a.o.box (((a.o.mut.sub (Z':=[B.ab,B.wb]) (λz d=>a8.2 (by simp at d;omega))).not a.o.box)) 0 rfl;have D:=zF (L:=[B.ab,B.wb]) f.o (((a.o.mut.sub (Z':=[B.ab,B.wb]) (λz d=>a8.2 (by simp at d;omega))).not f.o)) 1 rfl;have V:∀q:HW (λr=>af [B.ab,B.wb] W r),q.w.cell? (B.cs,th*4+1)=some (.int .i64 (S.TS th 1)):=λq=>(a.o.row.Rr q.h (by have:=a.o.row.differ a.o.ar.box aJ;have:=a.o.row.differ a.o.ar.row aJ;simp;omega)).cell (a9 K.n S.TS HJ.o aO);refine aG (λr=>af [B.ab,B.wb] W r) ?_;refine eQ (fuel:=1) [0,1,2,3,4,5,6,7,8,9,10] rfl aF.Rs ?_;refine aL 11 (fuel:=0) rfl ?_;go_wp2_with fail;refine gF (iN ((a.o.same ((af.refl [] W).Rs)).ar) ((K.cn (K.nd th):Nat):Int) (wrap64 (S.TS th 1+1))) ?_;rintro w2 ⟨N,c⟩;have b:=aH (((af.refl [B.ab,B.wb] W).Rs).trans c);have j:=aH (a.o.R1 b.o N);clear N c;go_wp2_with fail;refine ah ⟨b.o,?_⟩;refine aN ?_;have J:=aH (b.o.mono (S':=CZ B K) (λz d=>a8.2 (by simp at d;omega)));have j0:=j.o.p0 HJ.o;have j1:=j.o.p HJ.o (t:=1) aO;have jz:=j.o.row.frozen;have g3:=j.o.box.cell (i:=6) rfl;have P:B.ab≠bn/\B.wb≠bn:=⟨a.o.ar.box.differ f.o aJ,a.o.ar.row.differ f.o aJ⟩
  have F:=f.o.Rr b.o aQ;have m0:=F.cell (i:=0) rfl;clear u C D V b b0 b1 k0 k1 d6 F P;go_wp2_with fail;refine gF (kG ((j.o.loc _ HV.o)) ((K.sl th:Nat):Int)) ?_;rintro w4 ⟨l,c⟩;have I:=aH (j.o.local HV.o (c.mono aS) l);have s:=aH (c.mono (S':=CZ B K) (λz d=>a8.2 (by
   simp at d;have e:=d;exact .inr (.inr (.inr (.inr ⟨_,HV.o,e.symm⟩)))
   )))
  clear l c
 rotate_left
 focus
  obtain⟨bn,g⟩:∃bn,bn=w1.heap.size:=⟨_,rfl⟩
  rw[<-g] at f b0 b1;rw[<-g];clear g;have u:=aW [B.ab,B.wb] W;have C:=zF (L:=[B.ab,B.wb]) a.o.box (((a.o.mut.sub (Z':=[B.ab,B.wb]) (λz d=>a8.2 (by simp at d;omega))).not a.o.box)) 0 rfl;have D:=zF (L:=[B.ab,B.wb]) f.o (((a.o.mut.sub (Z':=[B.ab,B.wb]) (λz d=>a8.2 (by simp at d;omega))).not f.o)) 1 rfl;refine aG (λr=>af [B.ab,B.wb] W r) ?_;refine eQ (fuel:=1) [0,1,2,3,4,5] rfl aF.Rs ?_;refine aL 6 (fuel:=0) rfl ?_;go_wp2_with fail;refine gF (iN ((a.o.same ((af.refl [] W).Rs)).ar) ((K.cn (K.nd th):Nat):Int) (0)) ?_;rintro w2 ⟨N,c⟩;have b:=aH (((af.refl [B.ab,B.wb] W).Rs).trans c);have j:=aH (a.o.R1 b.o N);clear N c;go_wp2_with fail;refine ah ⟨b.o,?_⟩;refine aN ?_;have J:=aH (b.o.mono (S':=CZ B K) (λz d=>a8.2 (by simp at d;omega)));have j0:=j.o.p0 HJ.o;have j1:=j.o.p HJ.o (t:=1) aO;have jz:=j.o.row.frozen;have g3:=j.o.box.cell (i:=6) rfl;have P:B.ab≠bn/\B.wb≠bn:=⟨a.o.ar.box.differ f.o aJ,a.o.ar.row.differ f.o aJ⟩
  have F:=f.o.Rr b.o aQ;have m0:=F.cell (i:=0) rfl;clear u C D b b0 b1 k0 k1 d6 F P;go_wp2_with fail;refine gF (kG (j.o.Sf) ((K.nd th:Nat):Int)) ?_;rintro w4 ⟨l,c⟩;have I:=aH (j.o.S6 (c.mono aS) l);have s:=aH (c.mono (S':=CZ B K) (λz d=>a8.2 (by simp at d;omega)));clear l c
 rotate_left;all_goals
  go_wp2;go_ret
 iterate 2
  have U:af [] W3 (W3.drewN nq):=aF.drew _;exact⟨rfl,I.o.same U,((E.o.mono (S':=CZ B K) aS).trans HFE.o).trans (U.mono aS)⟩
 iterate 2
  exact⟨rfl,(show bg w2 B K {S with A:=p9 (K.L (K.nd th)) (S.LS (K.nd th)) S.A ((K.sl th:Nat):Int)} from L3 j.o),(E.o.mono (S':=CZ B K) aS).trans J.o⟩
 ·exact⟨rfl,I.o,((E.o.mono (S':=CZ B K) aS).trans m.o).trans s.o⟩
 iterate 3
  exact⟨rfl,j.o,(E.o.mono (S':=CZ B K) aS).trans m.o⟩
 iterate 2
  exact⟨rfl,I.o,((E.o.mono (S':=CZ B K) aS).trans J.o).trans s.o⟩
def AK:= @dt.1
def AJ:= @dt.2.1
def AM:= @dt.2.2.1
def AL:= @dt.2.2.2.1
def AO:= @dt.2.2.2.2.1
def AN:= @dt.2.2.2.2.2.1
def AQ:= @dt.2.2.2.2.2.2.1
def AP:= @dt.2.2.2.2.2.2.2.1
def C3:= @dt.2.2.2.2.2.2.2.2.1
def C4:= @dt.2.2.2.2.2.2.2.2.2
end
def jg(k th:Int)(r:Bool)(c:Int):Value:=.agg #[k,th,r,c]
def LP.Sx(p:LP)(s:p.σ)(i:Int):Int×Int:=if p.st s i=1/\p.RD s i=true then(2,p.Ta (p.Ru s i) i) else if p.st s i=3/\p.RD s i=true then(4,0) else(0,0)
def LP.step(p:LP)(s:p.σ)(i:Int):p.σ:=if p.st s i=1\/p.st s i=3 then p.Ru s i else s
theorem gN{e:World}{r:Nat}{x:List Value}(f:aq e r x 35)(k th:Int)(rd:Bool)(c:Int)(g:x.length=4):
 aq ((((e.setCell (r,0) (.int .i64 k)).setCell (r,1) (.int .i64 th)).setCell (r,2) (.bool rd)).setCell (r,3) (.int .i64 c)) r [k,th,rd,c] 35/\
 af [r] e ((((e.setCell (r,0) (.int .i64 k)).setCell (r,1) (.int .i64 th)).setCell (r,2) (.bool rd)).setCell (r,3) (.int .i64 c)):=by
 obtain⟨a,b,c',d,rfl⟩:∃a b c d,x=[a,b,c,d]:=by
  match x,g with
  | [a,b,c,d],_=>exact⟨a,b,c,d,rfl⟩
 exact⟨((((f.set 0 (.int .i64 k)).set 1 (.int .i64 th)).set 2 (.bool rd)).set 3 (.int .i64 c)),((aU.set _ _ (.inl aS)).set _ _ (.inl aS)).set _ _ (.inl aS)⟩
section
variable{p:LP}{b:LB p}{w w':World}{wo tb lk:Nat}{s s':p.σ}{i:Int}{k:Nat}
variable{r:Nat}
theorem LB.Ok.new(h:b.Ok)(a:b.At w s)(d:w.heap.size<=r):r∉b.Z:=λhm=>by
 obtain⟨_,_,c,_⟩:=h.free _ _ a r hm;have:=c.lt;omega
theorem eP.Tv(ha:eP b w' wo tb lk s'){a:World}{vs:List Value}(h:b.Ok)(c:b.At w s)(e:aq w' r vs 35)(f:w.heap.size<=r)(d:af [r] w' a):eP b a wo tb lk s':=
 ha.stay h d (fF.one e) (λz g=>by
  obtain rfl:z=r:=by simpa using g
  exact h.new c f)
theorem tV(ha:eP b w wo tb lk s):Calls prog 24 #[some wo] w λe w'=>e= .returned p.n/\w=w':=by
 have c2:=ha.box.cell (i:=2) rfl;have a:=aH (tN ha.lo);clear ha;go_enter func24,ntmps24;go_wp2_with fail;refine gF a.o ?_;rintro w' rfl;go_wp2;go_ret;exact⟨rfl,rfl⟩
theorem iJ(h:b.Ok)(ha:eP b w wo tb lk s)(hi:dO p i):Calls prog 28 #[some wo,i] w λe w'=>e= .returned (.tuple #[(p.st s i:Int),.bool (p.rd s i)])/\af [] w w':=by
 have l:=aH ha;have j:=aH (λ(W:World) (m:af [] w W)=>zx h (ha.lo.same h m) hi);have g:=aH (λ(W:World) (m:af [] w W)=>H1 h (ha.lo.same h m) hi);have o:=aW [] w;have r:∀q:HW (λn=>af [] w n),q.w.cell? (wo,2)=some (.pointer (some ⟨lk,0,none⟩)):=λq=>(l.o.same h q.h).box.cell (i:=2) rfl;generalize p.st s i=st at*;generalize p.rd s i=rd at*;clear ha hi;go_enter func28,ntmps28;go_wp2_with fail;refine aG (λn=>af [] w n) ?_;refine eQ (fuel:=4) [0,1,2,3,4,6,7,8,9,10] rfl aF.Rs ?_;refine aL 5 (fuel:=3) rfl ?_;go_wp2_with fail;refine gF (j.o _ ((af.refl [] w).Rs)) ?_;rintro w1 d;have a:=aH (((af.refl [] w).Rs).trans d);clear d;go_wp2_with fail;refine ah ⟨a.o,?_⟩;refine aL 11 (fuel:=2) rfl ?_;go_wp2_with fail;refine gF (g.o _ a.o) ?_;rintro w2 f;have c:=aH (a.o.trans f);clear f;go_wp2_with fail;refine ah ⟨c.o,?_⟩;refine eQ (fuel:=0) [12,13] rfl c.o ?_;refine aN ?_;go_wp2;go_ret2;exact⟨rfl,c.o⟩
theorem jT:(∀{p:LP}{b:LB p}{w:World}{wo tb lk:Nat}{s:p.σ}{i:Int}{k:Nat}(h:b.Ok)(G:p.I k s)(ha:eP b w wo tb lk s)(hi:dO p i)(h1:p.st s i≠1)(h3:p.st s i≠3),Calls prog 25 #[some wo,i] w λe w'=>e= .returned (jg 0 i (p.rd s i) (0))/\eP b w' wo tb lk (s)/\af b.Z w w')/\(∀{p:LP}{b:LB p}{w:World}{wo tb lk:Nat}{s:p.σ}{i:Int}{k:Nat}(h:b.Ok)(G:p.I k s)(ha:eP b w wo tb lk s)(hi:dO p i)(o:p.st s i=1)(J:p.RD s i=false),Calls prog 25 #[some wo,i] w λe w'=>e= .returned (jg 0 i (p.rd s i) (0))/\eP b w' wo tb lk (p.Ru s i)/\af b.Z w w')/\(∀{p:LP}{b:LB p}{w:World}{wo tb lk:Nat}{s:p.σ}{i:Int}{k:Nat}(h:b.Ok)(G:p.I k s)(ha:eP b w wo tb lk s)(hi:dO p i)(o:p.st s i=3)(J:p.RD s i=false),Calls prog 25 #[some wo,i] w λe w'=>e= .returned (jg 0 i (p.rd s i) (0))/\eP b w' wo tb lk (p.Ru s i)/\af b.Z w w')/\(∀{p:LP}{b:LB p}{w:World}{wo tb lk:Nat}{s:p.σ}{i:Int}{k:Nat}(h:b.Ok)(G:p.I k s)(ha:eP b w wo tb lk s)(hi:dO p i)(o:p.st s i=3)(J:p.RD s i=true),Calls prog 25 #[some wo,i] w λe w'=>e= .returned (jg 4 i (p.rd s i) (0))/\eP b w' wo tb lk (p.Ru s i)/\af b.Z w w')/\(∀{p:LP}{b:LB p}{w:World}{wo tb lk:Nat}{s:p.σ}{i:Int}{k:Nat}(h:b.Ok)(G:p.I k s)(ha:eP b w wo tb lk s)(hi:dO p i)(o:p.st s i=1)(J:p.RD s i=true),Calls prog 25 #[some wo,i] w λe w'=>e= .returned (jg 2 i (p.rd s i) (p.Ta (p.Ru s i) i))/\eP b w' wo tb lk (p.Ru s i)/\af b.Z w w'):=by
 refine⟨?_,?_,?_,?_,?_⟩;intro p b w wo tb lk s i k h G ha hi h1 h3;rotate_left;iterate 4
  intro p b w wo tb lk s i k h G ha hi o J;rotate_left
 all_goals
  have N:af [] w (w.alloc (.cells #[(0:Int),(0:Int),false,(0:Int)] 35)):=aF.alloc _;have HR:=aH (aq.new w #[(0:Int),(0:Int),false,(0:Int)] 35);have x:=iJ h (ha.same h N) hi;have A:=aH ha.lo.at_;have Q:=aH (ba w.heap.size);unfold jg
 generalize p.st s i=st at*;have d1:(st==1)=false:=by simpa using h1
 have d3:(st==3)=false:=by simpa using h3
 clear h1 h3;rotate_left;iterate 3
  rw[o] at x;have bB:=λ(W:World) (hf:af [] w W)=>D4 h G (ha.lo.same h hf) hi;rw[J] at bB;have D:=aH bB;clear bB o J;generalize p.Ru s i=s2 at*;rotate_left
 rw[o] at x;have bB:=λ(W:World) (hf:af [] w W)=>D4 h G (ha.lo.same h hf) hi;rw[J] at bB;have D:=aH bB;clear bB o J;have S:=aH (λ(W:World) (hl:qU b W lk (p.Ru s i))=>Hz h hl hi);generalize p.Ta (p.Ru s i) i=cn at*;generalize p.Ru s i=s2 at*;rotate_left;all_goals
  generalize p.rd s i=rd at*;have V:=aH x;have T:=aH N;have H:=aH ha;clear x ha N hi G;go_enter func25,ntmps25;go_wp2_with fail;refine gF V.o ?_;rintro w1 F;have g:=aH ((HR.o.Rr F aS).Rr ((af.refl [] w1).alloc (.cells #[(0:Int),i,rd,(0:Int)] 35)) aS);have f:=aH (aq.new w1 #[(0:Int),i,rd,(0:Int)] 35);have c:=aH ((T.o.trans F).alloc (.cells #[(0:Int),i,rd,(0:Int)] 35));have R:=F.size;rw[bP] at R;clear F;have c2:=(H.o.same h c.o).box.cell (i:=2) rfl
 have X:=aH (H.o.same h c.o);have P:=aH (c.o.mono (S':=b.Z) aS);clear c;have c:=P;have d:af [w1.heap.size] (w1.alloc (.cells #[(0:Int),i,rd,(0:Int)] 35)) ((w1.alloc (.cells #[(0:Int),i,rd,(0:Int)] 35))):=af.refl [w1.heap.size] (w1.alloc (.cells #[(0:Int),i,rd,(0:Int)] 35));have E:=aH (X.o.Tv h A.o f.o aO d);rotate_left;iterate 2
  focus
   go_wp2_with fail;refine gF (D.o _ c.o) ?_;rintro w2 ⟨I,a⟩;have u:=aH ((H.o.same h c.o).next h a I);have m:=aH (g.o.Rr a (h.new A.o (ba _)));have l:=aH (f.o.Rr a (h.new A.o aO));have B:=aH ((c.o.mono (S':=b.Z) aS).trans a);have q:=a.size;rw[bP] at q;clear I a c2 g f c;have d:af [w1.heap.size] w2 (w2):=af.refl [w1.heap.size] w2;have E:=aH (u.o.Tv h A.o l.o aO d)
  rotate_left
 focus
  go_wp2_with fail;refine gF (D.o _ c.o) ?_;rintro w2 ⟨I,a⟩;have u:=aH ((H.o.same h c.o).next h a I);have m:=aH (g.o.Rr a (h.new A.o (ba _)));have l:=aH (f.o.Rr a (h.new A.o aO));have B:=aH ((c.o.mono (S':=b.Z) aS).trans a);have q:=a.size;rw[bP] at q;clear I a c2 g f c;have d:af [w1.heap.size] w2 (w2.setCell (w1.heap.size,0) (.int .i64 4)):=(af.refl [w1.heap.size] w2).set _ _ (.inl aS);have E:=aH (u.o.Tv h A.o l.o aO d)
 rotate_left
 focus
  go_wp2_with fail;refine gF (D.o _ c.o) ?_;rintro w2 ⟨I,a⟩;have u:=aH ((H.o.same h c.o).next h a I);have m:=aH (g.o.Rr a (h.new A.o (ba _)));have l:=aH (f.o.Rr a (h.new A.o aO));have B:=aH ((c.o.mono (S':=b.Z) aS).trans a);have q:=a.size;rw[bP] at q;clear I a c2 g f c;have c2:=u.o.box.cell (i:=2) rfl;go_wp2_with fail;refine gF (S.o _ u.o.lo) ?_;rintro w3 y;have Y:=aH (u.o.same h y);have t:=aH (m.o.Rr y aS);have r:=aH (l.o.Rr y aS);have U:=aH (B.o.trans (y.mono aS));have hsz3:=y.size;clear y c2;have d:af [w1.heap.size] w3 ((w3.setCell (w1.heap.size,0) (.int .i64 2)).setCell (w1.heap.size,3) (.int .i64 cn)):=((af.refl [w1.heap.size] w3).set _ _ (.inl aS)).set _ _ (.inl aS);have E:=aH (Y.o.Tv h A.o r.o aO d)
 rotate_left;all_goals
  have hne:w.heap.size≠w1.heap.size:=by omega
 have j:=aH (g.o.Rr d aQ);have L:=aH (c.o.Rx d (λz O=>.inr (by simp at O;omega)));have e0:=f.o.cell (i:=0) rfl;have e1:=f.o.cell (i:=1) rfl;have e2:=f.o.cell (i:=2) rfl;have e3:=f.o.cell (i:=3) rfl;have ez:=f.o.frozen;have el:=f.o.lt;have q0:=g.o.cell (i:=0) rfl;have q1:=g.o.cell (i:=1) rfl;have q2:=g.o.cell (i:=2) rfl;have q3:=g.o.cell (i:=3) rfl;have qz:=g.o.frozen;have ql:=g.o.lt;rotate_left;iterate 3
  have j:=aH (m.o.Rr d aQ);have L:=aH (B.o.Rx d (λz O=>.inr (by simp at O;omega)));have e0:=l.o.cell (i:=0) rfl;have e1:=l.o.cell (i:=1) rfl;have e2:=l.o.cell (i:=2) rfl;have e3:=l.o.cell (i:=3) rfl;have ez:=l.o.frozen;have el:=l.o.lt;have q0:=m.o.cell (i:=0) rfl;have q1:=m.o.cell (i:=1) rfl;have q2:=m.o.cell (i:=2) rfl;have q3:=m.o.cell (i:=3) rfl;have qz:=m.o.frozen;have ql:=m.o.lt;rotate_left
 have j:=aH (t.o.Rr d aQ);have L:=aH (U.o.Rx d (λz O=>.inr (by simp at O;omega)));have e0:=r.o.cell (i:=0) rfl;have e1:=r.o.cell (i:=1) rfl;have e2:=r.o.cell (i:=2) rfl;have e3:=r.o.cell (i:=3) rfl;have ez:=r.o.frozen;have el:=r.o.lt;have q0:=t.o.cell (i:=0) rfl;have q1:=t.o.cell (i:=1) rfl;have q2:=t.o.cell (i:=2) rfl;have q3:=t.o.cell (i:=3) rfl;have qz:=t.o.frozen;have ql:=t.o.lt;rotate_left;all_goals
  clear d
 iterate 3
  have n:=gN j.o 0 i rd 0 rfl;rotate_left
 have n:=gN j.o 4 i rd 0 rfl;rotate_left;have n:=gN j.o 2 i rd cn rfl;rotate_left;all_goals
  have M:=aH (E.o.Tv h A.o j.o Q.o n.2);have C:=aH n.1;have K:=aH (L.o.Rx n.2 (λz O=>.inr (by have:=Q.o;simp at O;omega)));have r0:=j.o.cell (i:=0) rfl;have r1:=j.o.cell (i:=1) rfl;have r2:=j.o.cell (i:=2) rfl;have r3:=j.o.cell (i:=3) rfl;have rz:=j.o.frozen;have rl:=j.o.lt;clear n;go_wp2_with fail
 generalize(((((w1.alloc (.cells #[(0:Int),i,rd,(0:Int)] 35))).setCell (w.heap.size,0) (.int .i64 0)).setCell (w.heap.size,1) (.int .i64 i)).setCell (w.heap.size,2) (.bool rd)).setCell (w.heap.size,3) (.int .i64 0)=Z at*;rotate_left;iterate 2
  generalize((((w2).setCell (w.heap.size,0) (.int .i64 0)).setCell (w.heap.size,1) (.int .i64 i)).setCell (w.heap.size,2) (.bool rd)).setCell (w.heap.size,3) (.int .i64 0)=Z at*;rotate_left
 generalize((((w2.setCell (w1.heap.size,0) (.int .i64 4)).setCell (w.heap.size,0) (.int .i64 4)).setCell (w.heap.size,1) (.int .i64 i)).setCell (w.heap.size,2) (.bool rd)).setCell (w.heap.size,3) (.int .i64 0)=Z at*;rotate_left;generalize(((((w3.setCell (w1.heap.size,0) (.int .i64 2)).setCell (w1.heap.size,3) (.int .i64 cn)).setCell (w.heap.size,0) (.int .i64 2)).setCell (w.heap.size,1) (.int .i64 i)).setCell (w.heap.size,2) (.bool rd)).setCell (w.heap.size,3) (.int .i64 cn)=Z at*;rotate_left;all_goals
  have k0:=C.o.cell (i:=0) rfl;have k1:=C.o.cell (i:=1) rfl;have k2:=C.o.cell (i:=2) rfl;have k3:=C.o.cell (i:=3) rfl
 iterate 3
  focus
   exact eO (v:=.agg #[(0:Int),i,rd,(0:Int)]) (by simp[results,results25,go_sem,k0,k1,k2,k3]) rfl ⟨rfl,M.o,K.o⟩
 ·exact eO (v:=.agg #[(4:Int),i,rd,(0:Int)]) (by simp[results,results25,go_sem,k0,k1,k2,k3]) rfl ⟨rfl,M.o,K.o⟩
 ·exact eO (v:=.agg #[(2:Int),i,rd,cn]) (by simp[results,results25,go_sem,k0,k1,k2,k3]) rfl ⟨rfl,M.o,K.o⟩
def xg:= @jT.1
def xf:= @jT.2.1
def BD:= @jT.2.2.1
def xh:= @jT.2.2.2.1
def u9:= @jT.2.2.2.2
theorem Mb(h:b.Ok)(a:p.I k s)(ha:eP b w wo tb lk s)(hi:dO p i):Calls prog 25 #[some wo,i] w λe w'=>e= .returned (jg (p.Sx s i).1 i (p.rd s i) (p.Sx s i).2)/\eP b w' wo tb lk (p.step s i)/\af b.Z w w':=by
 unfold LP.Sx LP.step;by_cases h1:p.st s i=1
 ·rw[ad (Or.inl h1)];cases c:p.RD s i with
  |true=>rw[ad ⟨h1,rfl⟩];exact u9 h a ha hi h1 c
  |false=>rw[ac (λx=>by simp at x),ac (λx=>by simp at x)];exact xf h a ha hi h1 c
 ·by_cases h3:p.st s i=3
  ·rw[ad (Or.inr h3)];cases c:p.RD s i with
   |true=>rw[ac (λx=>h1 x.1),ad ⟨h3,rfl⟩];exact xh h a ha hi h3 c
   |false=>rw[ac (λx=>by simp at x),ac (λx=>by simp at x)];exact BD h a ha hi h3 c
  ·rw[ac (λx=>h1 x.1),ac (λx=>h3 x.1),ac (λx=>by rcases x with x|x;exact h1 x;exact h3 x)];exact xg h a ha hi h1 h3
end
section
variable{w w':World}{B:CB}{K:CK}{S:CS}
theorem fm:(∀{w:World}{B:CB}{K:CK}{S:CS}(h:bg w B K S){th:Nat}(hj:th<K.n)(p:S.TS th 0=2)(J:¬0<S.A.get ((K.cn (K.nd th):Nat):Int)),Calls prog 227 #[some B.cb,th] w λe w'=>e= .returned (3:Int)/\bg w' B K ({S with A:=S.A.load ((K.cn (K.nd th):Nat):Int),TS:=aa S.TS th 1 (S.A.get ((K.cn (K.nd th):Nat):Int)),GS:=gM K.G S.GS ((K.nd th:Nat):Int)})/\af (CZ B K) w w')/\(∀{w:World}{B:CB}{K:CK}{S:CS}(h:bg w B K S){th:Nat}(hj:th<K.n)(p:S.TS th 0=2)(J:0<S.A.get ((K.cn (K.nd th):Nat):Int)),Calls prog 227 #[some B.cb,th] w λe w'=>e= .returned (10:Int)/\bg w' B K ({S with A:=S.A.load ((K.cn (K.nd th):Nat):Int),TS:=aa S.TS th 1 (S.A.get ((K.cn (K.nd th):Nat):Int))})/\af (CZ B K) w w')/\(∀{w:World}{B:CB}{K:CK}{S:CS}(h:bg w B K S){th:Nat}(hj:th<K.n)(p:S.TS th 0=4),Calls prog 227 #[some B.cb,th] w λe w'=>e= .returned (10:Int)/\bg w' B K ({S with A:=S.A.store ((K.cn (K.nd th):Nat):Int) 1,TS:=aa S.TS th 1 1})/\af (CZ B K) w w')/\(∀{w:World}{B:CB}{K:CK}{S:CS}(h:bg w B K S){th:Nat}(hj:th<K.n)(p:S.TS th 0=1)(T:∀v,v<K.E->(K.L v).k=4->jn (K.L v).n (S.LS v))(G:cN (K.L (K.nd th)) (S.LS (K.nd th)) S.A ((K.sl th:Nat):Int)=true),Calls prog 227 #[some B.cb,th] w λe w'=>e= .returned (2:Int)/\bg w' B K ({S with A:=bL (K.L (K.nd th)) (S.LS (K.nd th)) S.A ((K.sl th:Nat):Int),LS:=dL S.LS (K.nd th) (bM (K.L (K.nd th)) (S.LS (K.nd th)) S.A ((K.sl th:Nat):Int))})/\af (CZ B K) w w')/\(∀{w:World}{B:CB}{K:CK}{S:CS}(h:bg w B K S){th:Nat}(hj:th<K.n)(p:S.TS th 0=1)(T:∀v,v<K.E->(K.L v).k=4->jn (K.L v).n (S.LS v))(G:cN (K.L (K.nd th)) (S.LS (K.nd th)) S.A ((K.sl th:Nat):Int)=false),Calls prog 227 #[some B.cb,th] w λe w'=>e= .returned (1:Int)/\bg w' B K ({S with A:=bL (K.L (K.nd th)) (S.LS (K.nd th)) S.A ((K.sl th:Nat):Int),LS:=dL S.LS (K.nd th) (bM (K.L (K.nd th)) (S.LS (K.nd th)) S.A ((K.sl th:Nat):Int))})/\af (CZ B K) w w')/\(∀{w:World}{B:CB}{K:CK}{S:CS}(h:bg w B K S){th:Nat}(hj:th<K.n)(p:S.TS th 0=3)(R:K.G.k=4->jn K.G.n S.GS)(G:cN K.G S.GS S.A ((K.nd th:Nat):Int)=true),Calls prog 227 #[some B.cb,th] w λe w'=>e= .returned (4:Int)/\bg w' B K ({S with A:=bL K.G S.GS S.A ((K.nd th:Nat):Int),GS:=bM K.G S.GS S.A ((K.nd th:Nat):Int)})/\af (CZ B K) w w')/\(∀{w:World}{B:CB}{K:CK}{S:CS}(h:bg w B K S){th:Nat}(hj:th<K.n)(p:S.TS th 0=3)(R:K.G.k=4->jn K.G.n S.GS)(G:cN K.G S.GS S.A ((K.nd th:Nat):Int)=false),Calls prog 227 #[some B.cb,th] w λe w'=>e= .returned (3:Int)/\bg w' B K ({S with A:=bL K.G S.GS S.A ((K.nd th:Nat):Int),GS:=bM K.G S.GS S.A ((K.nd th:Nat):Int)})/\af (CZ B K) w w'):=by
 refine⟨?_,?_,?_,?_,?_,?_,?_⟩;iterate 2
  intro w B K S h th hj p J;rotate_left
 intro w B K S h th hj p;rotate_left;iterate 2
  intro w B K S h th hj p T G;rotate_left
 iterate 2
  intro w B K S h th hj p R G;rotate_left
 all_goals
  have HJ:=aH hj;have hn32:=h.Ry;have HV:=aH (h.Th hj);have HOF:=aH (J5 h hj);have c8:=h.box.cell (i:=8) rfl;have l1:(th:Int)<K.n:=by omega
  have H:=aH h;have Y:=aH p
 obtain⟨x,m⟩:∃x,S.A.get ((K.cn (K.nd th):Nat):Int)=x:=⟨_,rfl⟩
 rw[m] at J⊢;have HX:=aH m;have dx:decide (0<x)=false:=by simpa using J
 clear m;rotate_left;obtain⟨x,m⟩:∃x,S.A.get ((K.cn (K.nd th):Nat):Int)=x:=⟨_,rfl⟩
 rw[m] at J⊢;have HX:=aH m;have dx:decide (0<x)=true:=by simpa using J
 clear m;rotate_left;rotate_left;iterate 4
  have Q:=aH G;clear G;rotate_left
 all_goals
  clear h p hj;go_enter func227,ntmps227;go_wp2_with fail;refine gF HOF.o ?_;rintro w1 b;have I:af [] w1 (w1.alloc (.cells #[some (B.fb (K.nd th)),(K.cn (K.nd th):Int)] 203)):=aF.alloc _;have D:=aq.new w1 #[some (B.fb (K.nd th)),(K.cn (K.nd th):Int)] 203;have M:=H.o.same (b.trans I);have X:=M.p0 HJ.o;rw[Y.o] at X;have k1:=M.p HJ.o (t:=1) aO;have b0:=D.cell (i:=0) rfl;have b1:=D.cell (i:=1) rfl;have d6:=M.box.cell (i:=6) rfl;have F:=aH (b.trans I);have f:=aH D;have d:=aH M;have hbw:w.heap.size<=w1.heap.size:=b.size;clear I D M b;go_wp2_with fail;generalize w1.alloc (.cells #[some (B.fb (K.nd th)),(K.cn (K.nd th):Int)] 203)=W at*
 focus
  obtain⟨bn,j⟩:∃bn,bn=w1.heap.size:=⟨_,rfl⟩
  rw[<-j] at f b0 b1;rw[<-j];clear j;have q:=aW [B.cs,B.ab,B.wb] W;have r:=zF (L:=[B.cs,B.ab,B.wb]) d.o.box (((d.o.mut.sub (Z':=[B.cs,B.ab,B.wb]) (λz c=>a8.2 (by simp at c;omega))).not d.o.box)) 0 rfl;have s:=zF (L:=[B.cs,B.ab,B.wb]) f.o (((d.o.mut.sub (Z':=[B.cs,B.ab,B.wb]) (λz c=>a8.2 (by simp at c;omega))).not f.o)) 1 rfl;refine aG (λP=>af [B.cs,B.ab,B.wb] W P) ?_;refine eQ (fuel:=4) [0,1,2,3,4,5,6] rfl aF.Rs ?_;refine aL 7 (fuel:=3) rfl ?_;go_wp2_with fail;refine(fh ((d.o.same ((af.refl [] W).Rs)).ar) ((K.cn (K.nd th):Nat):Int)).mono ?_;rw[HX.o];rintro e w2 ⟨rfl,E,b⟩;have a:=aH (((af.refl [B.ab,B.wb] W).Rs).trans b);have g:=aH (d.o.R1 a.o E);have U:=g.o.p HJ.o (t:=1) aO;have V:=g.o.row.frozen;clear E b;go_wp2_with fail;refine ah ⟨a.o.mono aS,?_⟩;refine eQ (fuel:=1) [8,9] rfl (a.o.mono aS) ?_;refine aL 10 (fuel:=0) rfl ?_;go_wp2_with fail;refine ah ⟨(a.o.mono (S':=[B.cs,B.ab,B.wb]) aS).set _ _ (.inl aS),?_⟩;refine aN ?_;have u:=aH (g.o.put th (t:=1) aO x);have C:=aH (((a.o.mono (S':=[B.cs,B.ab,B.wb]) aS).set ⟨B.cs,th*4+1,none⟩ (.int .i64 x) (.inl aS)).mono (S':=CZ B K) (λz c=>a8.2 (by simp at c;omega)));clear U V q r s g a b0 b1 X k1 d6;generalize w2.setCell (B.cs,th*4+1) (.int .i64 x)=W3 at*;have e1:W3.cell? (B.cs,th*4+1)=some (.int .i64 x):=(u.o.p HJ.o (t:=1) aO).trans (by simp[aa]);have e0:=u.o.p0 HJ.o;have g3:=u.o.box.cell (i:=6) rfl;go_wp2_with fail;refine gF (rt (u.o.Sf) ((K.nd th:Nat):Int)) ?_;rintro w4 ⟨o,b⟩;have g:=aH (u.o.S6 (b.mono aS) o);have l:=aH (b.mono (S':=CZ B K) (λz c=>a8.2 (by simp at c;omega)));clear o b;go_wp2
 rotate_left
 focus
  obtain⟨bn,j⟩:∃bn,bn=w1.heap.size:=⟨_,rfl⟩
  rw[<-j] at f b0 b1;rw[<-j];clear j;have q:=aW [B.cs,B.ab,B.wb] W;have r:=zF (L:=[B.cs,B.ab,B.wb]) d.o.box (((d.o.mut.sub (Z':=[B.cs,B.ab,B.wb]) (λz c=>a8.2 (by simp at c;omega))).not d.o.box)) 0 rfl;have s:=zF (L:=[B.cs,B.ab,B.wb]) f.o (((d.o.mut.sub (Z':=[B.cs,B.ab,B.wb]) (λz c=>a8.2 (by simp at c;omega))).not f.o)) 1 rfl;refine aG (λP=>af [B.cs,B.ab,B.wb] W P) ?_;refine eQ (fuel:=4) [0,1,2,3,4,5,6] rfl aF.Rs ?_;refine aL 7 (fuel:=3) rfl ?_;go_wp2_with fail;refine(fh ((d.o.same ((af.refl [] W).Rs)).ar) ((K.cn (K.nd th):Nat):Int)).mono ?_;rw[HX.o];rintro e w2 ⟨rfl,E,b⟩;have a:=aH (((af.refl [B.ab,B.wb] W).Rs).trans b);have g:=aH (d.o.R1 a.o E);have U:=g.o.p HJ.o (t:=1) aO;have V:=g.o.row.frozen;clear E b;go_wp2_with fail;refine ah ⟨a.o.mono aS,?_⟩;refine eQ (fuel:=1) [8,9] rfl (a.o.mono aS) ?_;refine aL 10 (fuel:=0) rfl ?_;go_wp2_with fail;refine ah ⟨(a.o.mono (S':=[B.cs,B.ab,B.wb]) aS).set _ _ (.inl aS),?_⟩;refine aN ?_;have u:=aH (g.o.put th (t:=1) aO x);have C:=aH (((a.o.mono (S':=[B.cs,B.ab,B.wb]) aS).set ⟨B.cs,th*4+1,none⟩ (.int .i64 x) (.inl aS)).mono (S':=CZ B K) (λz c=>a8.2 (by simp at c;omega)));clear U V q r s g a b0 b1 X k1 d6;generalize w2.setCell (B.cs,th*4+1) (.int .i64 x)=W3 at*;have e1:W3.cell? (B.cs,th*4+1)=some (.int .i64 x):=(u.o.p HJ.o (t:=1) aO).trans (by simp[aa]);have e0:=u.o.p0 HJ.o;go_wp2
 rotate_left
 focus
  obtain⟨bn,j⟩:∃bn,bn=w1.heap.size:=⟨_,rfl⟩
  rw[<-j] at f b0 b1;rw[<-j];clear j;have q:=aW [B.ab,B.wb] W;have r:=zF (L:=[B.ab,B.wb]) d.o.box (((d.o.mut.sub (Z':=[B.ab,B.wb]) (λz c=>a8.2 (by simp at c;omega))).not d.o.box)) 0 rfl;have s:=zF (L:=[B.ab,B.wb]) f.o (((d.o.mut.sub (Z':=[B.ab,B.wb]) (λz c=>a8.2 (by simp at c;omega))).not f.o)) 1 rfl;refine aG (λP=>af [B.ab,B.wb] W P) ?_;refine eQ (fuel:=1) [0,1,2,3,4,5] rfl aF.Rs ?_;refine aL 6 (fuel:=0) rfl ?_;go_wp2_with fail;refine gF (iN ((d.o.same ((af.refl [] W).Rs)).ar) ((K.cn (K.nd th):Nat):Int) (1)) ?_;rintro w2 ⟨E,b⟩;have a:=aH (((af.refl [B.ab,B.wb] W).Rs).trans b);have g:=aH (d.o.R1 a.o E);clear E b;go_wp2_with fail;refine ah ⟨a.o,?_⟩;refine aN ?_;have Z:=aH (a.o.mono (S':=CZ B K) (λz c=>a8.2 (by simp at c;omega)));have j0:=g.o.p0 HJ.o;have U:=g.o.p HJ.o (t:=1) aO;have V:=g.o.row.frozen;have g3:=g.o.box.cell (i:=6) rfl;have hnb:B.ab≠bn/\B.wb≠bn:=⟨d.o.ar.box.differ f.o aJ,d.o.ar.row.differ f.o aJ⟩
  have N:=f.o.Rr a.o aQ;have m0:=N.cell (i:=0) rfl;clear q r s a b0 b1 X k1 d6 N hnb;go_wp2_with fail;have u:=aH (g.o.put th (t:=1) aO 1);have C:=aH (Z.o.set ⟨B.cs,th*4+1,none⟩ (.int .i64 1) (.inl (a8.2 (.inl rfl))))
 rotate_left
 focus
  refine(fw ((d.o.loc _ HV.o)) (T _ HV.o) ((K.sl th:Nat):Int)).mono ?_;rw[Q.o];rintro e w2 ⟨rfl,o,b⟩;have g:=aH (d.o.local HV.o (b) o);have l:=aH (b.mono (S':=CZ B K) (λz c=>a8.2 (by
   simp at c;rcases c with e|e|e
   ·exact .inr (.inr (.inr (.inr ⟨_,HV.o,e.symm⟩)))
   ·omega
   ·omega)))
  clear o b;go_wp2
 rotate_left
 focus
  refine(fw ((d.o.loc _ HV.o)) (T _ HV.o) ((K.sl th:Nat):Int)).mono ?_;rw[Q.o];rintro e w2 ⟨rfl,o,b⟩;have g:=aH (d.o.local HV.o (b) o);have l:=aH (b.mono (S':=CZ B K) (λz c=>a8.2 (by
   simp at c;rcases c with e|e|e
   ·exact .inr (.inr (.inr (.inr ⟨_,HV.o,e.symm⟩)))
   ·omega
   ·omega)))
  clear o b;have kp:=g.o.p0 HJ.o;have O:=Y.o;rw[show S.TS th 0=_ from O] at kp;clear O;go_wp2
 rotate_left
 focus
  refine(fw (d.o.Sf) R ((K.nd th:Nat):Int)).mono ?_;rw[Q.o];rintro e w2 ⟨rfl,o,b⟩;have g:=aH (d.o.S6 (b) o);have l:=aH (b.mono (S':=CZ B K) (λz c=>a8.2 (by simp at c;omega)));clear o b;go_wp2
 rotate_left
 focus
  refine(fw (d.o.Sf) R ((K.nd th:Nat):Int)).mono ?_;rw[Q.o];rintro e w2 ⟨rfl,o,b⟩;have g:=aH (d.o.S6 (b) o);have l:=aH (b.mono (S':=CZ B K) (λz c=>a8.2 (by simp at c;omega)));clear o b;have kp:=g.o.p0 HJ.o;have O:=Y.o;rw[show S.TS th 0=_ from O] at kp;clear O;go_wp2
 rotate_left;all_goals
  go_ret
 ·exact⟨rfl,g.o,((F.o.mono (S':=CZ B K) aS).trans C.o).trans l.o⟩
 iterate 2
  exact⟨rfl,u.o,(F.o.mono (S':=CZ B K) aS).trans C.o⟩
 iterate 4
  exact⟨rfl,g.o,(F.o.mono (S':=CZ B K) aS).trans l.o⟩
def GJ:= @fm.1
def GK:= @fm.2.1
def J6:= @fm.2.2.1
def GI:= @fm.2.2.2.1
def GH:= @fm.2.2.2.2.1
def GM:= @fm.2.2.2.2.2.1
def GL:= @fm.2.2.2.2.2.2
end
end Go.Proofs.YteijjhahgabalaaGreat
