/- The contracts of package path: what a topology says of its threads, found when it is asked for first. -/
import Derived.Test.YteijjhahgabalaaGreatWA18
import Derived.Test.YteijjhahgabalaaGreatWA15
import Derived.Test.YteijjhahgabalaaGreatWA26
import Derived.Test.YteijjhahgabalaaGreatWA08
import Derived.Test.YteijjhahgabalaaGreatWA17
import Derived.Test.YteijjhahgabalaaGreatWA12
set_option maxRecDepth 100000
set_option maxHeartbeats 8000000
set_option linter.all false
namespace Go.Proofs.YteijjhahgabalaaGreat
open Go.RowKit
open Tryz
def tE (P:List Int):List Int:=cD P P.length
def jl (P:List Int) (x:Int):Nat:=(tE P).idxOf x
def dt (T:List Int) (k:Nat):List Int:=(List.range k).map fun i=>((T.take i).count (T[i]?.getD 0):Int)
theorem mA (T:List Int) (k:Nat):dt T (k+1)=dt T k++[((T.take k).count (T[k]?.getD 0):Int)]:=by unfold dt;rw[List.range_succ,List.map_append];rfl
theorem El {E:List Int} {x:Int} {k:Nat} (hk:k<E.length) (he:E[k]?.getD 0=x) (hj:∀i,i<k→E[i]?.getD 0≠x):E.idxOf x=k:=by
 induction E generalizing k with
 |nil=>simp at hk
 |cons a E ih=>
  cases k with
  |zero=>
   have:a=x:=by simpa using he
   subst this;simp
  |succ k=>
   have h0:a≠x:=by simpa using hj 0 aO
   rw[List.idxOf_cons];have:(a==x)=false:=by simpa using h0
   rw[this];simp only[cond_false];rw[ih (by simpa using hk) (by simpa using he) (fun i hi=>by simpa using hj (i+1) aO)]
section
variable{w:World} {b1:Nat} {v:Value}
theorem r6 {E:List Int} {x:Int} (hx:a7 w b1 v E) (hn:E.length≤100) (hm:x∈E):Calls prog 84 #[v,x] w fun e w'=>e= .returned (E.idxOf x:Int)∧w=w':=by
 obtain⟨a,cap,rfl, -,hcx⟩:=hx;have HX:=aH hcx;have HM:=aH hm;have hI:=fun(k:Nat) (hk:k<E.length) (he:E[k]?.getD 0=x) hj=>El hk he hj;have HI:=aH hI;clear hcx hm hI;go_enter func84,ntmps84;go_wp2_with fail;go_loopw[8] (fun iv wx=>∃k:Nat,iv= .int .i64 k∧k≤E.length∧(∀i,i<k→E[i]?.getD 0≠x)∧w=wx) (fun iv _=>E.length - (intOf iv).toNat)
 case atStart=>exact⟨0,rfl,by omega,fun i hi=>by omega,rfl⟩
 case round=>
  obtain⟨k,rfl,hk,hj,rfl⟩:=hrel;have HJ:=aH hj;clear hj;by_cases hlt:k<E.length
  ·have e0:decide ((k:Int)<E.length)=true:=by simpa using hlt
   have e0':decide (k<E.length)=true:=by simpa using hlt
   have l1:(k:Int)<E.length:=by omega
   obtain⟨b,off,_,rfl,hc⟩:=HX.o aO;have c1:=hc k hlt;clear hc;generalize hy:E[k]?.getD 0=y at*;have HY:=aH hy;clear hy;by_cases hxy:x=y
   ·have d1:(x==y)=true:=by simpa using hxy
    have HXY:=aH hxy;clear hxy;go_wp2;go_ret;exact⟨cP (by rw[HI.o k hlt (by rw[HY.o,HXY.o]) HJ.o]),rfl⟩
   ·have d1:(x==y)=false:=by simpa using hxy
    have HXY:=aH hxy;clear hxy;go_wp2_with fail;go_roundw
    case rel=>
     refine⟨k+1,by go_num,by omega,fun i hi=>?_,by trivial⟩;by_cases e:i=k
     ·subst e;rw[HY.o];exact fun e=>HXY.o e.symm
     ·exact HJ.o i aO
    case measure=>simp[intOf];omega
  ·exfalso;obtain⟨i,hi⟩:=List.getElem?_of_mem HM.o;have:=(List.getElem?_eq_some_iff.1 hi).1;exact HJ.o i aO (by rw[hi];rfl)
theorem am.differ {w:World} {b b':Nat} {vs vs':List Value} {T T':TypeId} (h:am w b vs T) (h':am w b' vs' T') (ht:T≠T'):b≠b':=by
 rintro rfl;unfold am at h h';rw[h] at h';have:=Option.some.inj h';injection this with _ h2;exact ht h2
def IR (w:World) (g:Nat) (v:Value) (zs:List Int):Prop:=∃cap cur,v= .slice (some ⟨g,0,none⟩) zs.length cap∧am w g cur 3∧zs.length≤maxLen∧∀i,i<zs.length→cur[i]? =some (.int .i64 (zs[i]?.getD 0))
theorem IR.frm {w':World} {g:Nat} {zs:List Int} (h:IR w g v zs) {Z:List Nat} (hf:ae Z w w') (hz:g∉Z):IR w' g v zs:=by
 obtain⟨cap,cur,h1,h2,h3⟩:=h;exact⟨cap,cur,h1,h2.frm hf hz,h3⟩
theorem IR.row {g:Nat} {zs:List Int} (h:IR w g v zs):a7 w 0 v zs:=by
 obtain⟨cap,cur,h1,h2,h3,h4⟩:=h;refine⟨some ⟨g,0,none⟩,cap,h1,h3,fun _=>⟨g,0,Nat.zero_le _,rfl,fun i hi=>?_⟩⟩;rw[Nat.zero_add];exact h2.cell (h4 i hi)
theorem IR.lt {g:Nat} {zs:List Int} (h:IR w g v zs):g<w.heap.size:=by
 obtain⟨cap,cur,h1,h2,h3⟩:=h;exact h2.lt
theorem IR.of_rows {zs:List Int} {B:Nat} (hn:zs≠[]) (h:w.ownsRow B 3 1 v zs.length (zs.map (Value.int .i64))):∃g,B≤g∧IR w g v zs∧v.ownBlock=some g:=by
 obtain⟨h1,h2⟩:=h;rcases h2 with⟨_,h2⟩|⟨g,cap,cur,hv,hb,hh,hk,hc1,hc2,htk⟩
 ·exact absurd (List.length_eq_zero_iff.1 h2) hn
 ·refine⟨g,hb,⟨cap,cur.toList,hv,by unfold am;simpa using hh,by omega,fun i hi=>?_⟩,by rw[hv];rfl⟩;have h3:(cur.toList.take (zs.length*1))[i]? =(zs.map (Value.int .i64))[i]? :=by rw[htk]
  rw[List.getElem?_take_of_lt aO,List.getElem?_map] at h3;rw[h3];simp[hi]
theorem j8 {P T:List Int} (hs:du P T) {x:Int} (hx:x∈T):x∈tE P:=r4 (hs.ends x hx)
theorem iJ (P:List Int):(tE P).length≤P.length:=by
 unfold tE cD;rw[List.length_map];exact Nat.le_trans (List.length_filter_le _ _) aS
theorem xe {b2:Nat} {u:Value} {P T:List Int} (hx:a7 w b1 v P) (hy:a7 w b2 u T) (hs:du P T):
 Calls prog 113 #[.agg #[v,u]] w fun e w'=>∃r,e= .returned r∧ju w' w.heap.size r (tE P)∧ae [] w w':=by
 have HC:=aH (fun(W:World) (hf:ae [] w W)=>iZ W (hx.frm hf aS) (hy.frm hf aS) hs);have HL:=aH (fun(W:World) (hf:ae [] w W)=>pt (hx.frm hf aS) (by have:=hs.size.2.1;omega) hs.tree);obtain⟨a,cap,rfl,h1, -⟩:=hx;obtain⟨a',cap',rfl,h2, -⟩:=hy;have hB:=am.new w #[.slice a P.length cap,.slice a' T.length cap'] 24;have HB:=aH hB;clear hB;go_enter func113,ntmps113;go_wp2_with fail;refine(HC.o _ (aF.alloc _)).mono ?_;rintro e w1 ⟨rfl,hF⟩;have HF:=aH (((ae.refl [] w).alloc (.cells #[.slice a P.length cap,.slice a' T.length cap'] 24)).trans hF);have k0:=(HB.o.frm hF aS).cell (i:=0) rfl;have hsz:=HF.o.size;clear hF;go_wp2_with fail;refine(HL.o _ HF.o).mono ?_;rintro e w2 ⟨r,rfl,hO,hF⟩;have HO:=aH (hO.base hsz);have HF2:=aH (HF.o.trans hF);clear hO hF;go_wp2;go_ret;exact⟨r,rfl,HO.o,HF2.o⟩
theorem vN (b off l c:Nat) (W:World):(binOp .eql 22 (.slice (some ⟨b,off,none⟩) l c) (.slice none 0 0)).run prog W= .ok (.bool false) W:=by kernel_rfl
theorem lL {zs:List Int} (h:a7 w b1 v zs) (hn:1≤zs.length) (hm:zs.length≤100):Calls prog 58 #[v] w fun e w'=>∃u,e= .returned u∧ju w' w.heap.size u zs∧ae [] w w':=by
 obtain⟨i0,hi,hz0,hz1,hz2⟩:=info_parts iY;obtain⟨a,cap,rfl,h1,hc⟩:=h;obtain⟨b,off,hb,rfl,hc2⟩:=hc aO;have hnews:∀(j:Nat) (u:Value),(zs.map (Value.int .i64))[j]? =some u→w.cell? ((⟨b,off,none⟩:Addr).add j)=some u:=by
  intro j u hu;have hj:j<zs.length:=by have:=(List.getElem?_eq_some_iff.1 hu).1;simpa using this
  have e:(⟨b,off,none⟩:Addr).add j=⟨b,off+j,none⟩:=by
   unfold Addr.add
   split
   ·rename_i h0;subst h0;rfl
   ·rfl
  rw[e,hc2 j hj];rw[List.getElem?_map] at hu;rw[←hu];simp[hj]
 have hcell:∀u∈zs.map (Value.int .i64),u.oneCell'=true:=by
  intro u hu;obtain⟨z,_,rfl⟩:=List.mem_map.1 hu;simp[Value.oneCell']
 have HNW:=aH hnews;have HCL:=aH hcell;have HI:=aH (And.intro hi (And.intro hz0 (And.intro hz1 hz2)));clear hc hc2 hnews hcell hi hz0 hz1 hz2;have hsn:=vN b off zs.length cap;have hro:(w.alloc (.cells #[] 3)).ownsRow w.heap.size 3 1 (.slice (some ⟨w.heap.size,0,none⟩) 0 0) 0 []:=⟨rfl,.inr ⟨w.heap.size,0,#[],rfl,Nat.le_refl _,am.new w #[] 3,Nat.le_refl _,Nat.zero_le _,rfl,rfl⟩⟩
 have HRO:=aH hro;have HNA:=aH (fun(j:Nat) (u:Value) (h:(zs.map (Value.int .i64))[j]? =some u)=>((ae.refl [] w).alloc (.cells #[] 3)).cell (HNW.o j u h) aS);clear hro;go_enter func58,ntmps58;go_wp2_with(at_builtin;go_must(refine wpList_append_own _ rfl _ _ 22 rfl w.heap.size 3 i0 (.int .i64 0) 1 8 underlying22 HI.o.1 HI.o.2.1 HI.o.2.2.1 HI.o.2.2.2 rfl aJ (.slice (some ⟨w.heap.size,0,none⟩) 0 0) 0 [] rfl HRO.o ⟨b,off,none⟩ zs.length cap (zs.map (Value.int .i64)) rfl aS HNA.o HCL.o aM aO (by rw[World.size_alloc];omega) ?_;intro v' w1 hown' hgrow _;have HO:=aH hown';have HG:=aH hgrow;clear hown' hgrow))
 go_ret;refine⟨v',rfl,?_,?_⟩
 ·have:=HO.o;unfold ju;simpa using this
 ·exact((ae.refl [] w).alloc _).widen (S':=[w.heap.size]) (ae.of_grown HG.o (fun k hk=>.inl (by have:w.heap.size=k:=Option.some.inj hk;simp[this]))) (fun x hx=>.inr (by simp at hx;omega))
end
theorem zu:(prog.info? 22).map (fun i=>(i.zero,i.size,i.bytes))=some (some (.slice none 0 0),1,24):=by kernel_rfl
theorem jN {w:World} {g:Nat} {v:Value} {zs:List Int} (h:IR w g v zs) {k:Nat} (hk:k<zs.length):w.cell? (g,k)=some (.int .i64 (zs[k]?.getD 0)):=by
 obtain⟨_,_,_,hh,_,hc⟩:=h;exact hh.cell (hc k hk)
theorem iu {T:List Int} {k:Nat} (hk:k<T.length) {y:Int}:((T.take (k+1)).count y:Int)=(T.take k).count y+(if T[k]?.getD 0=y then 1 else 0):=by
 rw[List.take_add_one,List.getElem?_eq_getElem hk,List.count_append];simp only[Option.toList_some,Option.getD_some,List.count_cons,List.count_nil];by_cases e:T[k]=y
 ·simp[e]
 ·simp[e]
theorem AO {P:List Int} {a b:Nat} (ha:a<(tE P).length) (hb:b<(tE P).length) (h:(tE P)[a]?.getD 0=(tE P)[b]?.getD 0):a=b:=by
 have hl:((List.range P.length).filter (fun v:Nat=> !decide ((v:Int)∈P))).length=(tE P).length:=by unfold tE cD;rw[List.length_map]
 have hn:((List.range P.length).filter (fun v:Nat=> !decide ((v:Int)∈P))).Nodup:=List.nodup_range.filter _;have hg:∀i (hi:i<(tE P).length),(tE P)[i]?.getD 0=((((List.range P.length).filter (fun v:Nat=> !decide ((v:Int)∈P)))[i]'(by rw[hl];exact hi):Nat):Int):=by
  intro i hi;unfold tE cD;rw[List.getElem?_map,List.getElem?_eq_getElem (by rw[hl];exact hi)];rfl
 rw[hg a ha,hg b hb] at h;have h2:((List.range P.length).filter (fun v:Nat=> !decide ((v:Int)∈P)))[a]'(by rw[hl];exact ha)=((List.range P.length).filter (fun v:Nat=> !decide ((v:Int)∈P)))[b]'(by rw[hl];exact hb):=by omega
 exact(List.getElem_inj hn).1 h2
def dh (P:List Int):Nat→Int→List Int
 | 0,_=>[]
 |f+1,y=>if y<0 then[] else y::dh P f (P[y.toNat]?.getD 0)
structure Kl (ws:Nat→List Int) (w0 wr:World) (tb gm:Nat) (vp vt vup vnode vslot:Value) (E:Nat) (U:List Value) (nn ss:List Int) (mm:Nat→Int):Prop where
 box:am wr tb [vp,vt,.int .u32 0,.int .i32 1,.int .u32 0,vup,vnode,vslot,.slice (some ⟨gm,0,none⟩) E E] 136
 mat:am wr gm (fA E mm) 3
 up:wr.ownsRow w0.heap.size 22 1 vup U.length U
 nod:wr.ownsRow w0.heap.size 3 1 vnode nn.length (nn.map (Value.int .i64))
 slo:wr.ownsRow w0.heap.size 3 1 vslot ss.length (ss.map (Value.int .i64))
 d1:∀g,vnode.ownBlock=some g→vslot.ownBlock≠some g∧vup.ownBlock≠some g
 d2:∀g,vslot.ownBlock=some g→vup.ownBlock≠some g
 lt:tb<w0.heap.size∧gm<w0.heap.size∧tb≠gm
 frm:ae [tb,gm] w0 wr
 ur:∀i,i<U.length→∃v,U[i]? =some v∧wr.ownsRow w0.heap.size 3 1 v (ws i).length ((ws i).map (Value.int .i64))∧∀g,v.ownBlock=some g→vup.ownBlock≠some g∧vnode.ownBlock≠some g∧vslot.ownBlock≠some g
theorem bh {w:World} {base size k:Nat} {e:TypeId} {v:Value} {xs:List Value} (h:w.ownsRow base e size v k xs):∀j,v.ownBlock=some j→base≤j∧j<w.heap.size:=by
 rcases h.2 with⟨rfl,_⟩|⟨g,cap,cur,rfl,hg,hh,_⟩
 ·intro k hk;simp[Value.ownBlock] at hk
 ·intro k hk;have:g=k:=Option.some.inj hk;subst this;exact⟨hg,(Array.getElem?_eq_some_iff.1 hh).1⟩
theorem bk {w w':World} {base size k:Nat} {e:TypeId} {v:Value} {xs:List Value} (h:w.ownsRow base e size v k xs) {S:List Nat} (hf:ae S w w') (hs:∀g,v.ownBlock=some g→g∉S):w'.ownsRow base e size v k xs:=by
 obtain⟨h1,h2⟩:=h;refine⟨h1,?_⟩;rcases h2 with h2|⟨g,cap,cur,hv,hg,hh,r⟩
 ·exact .inl h2
 ·refine .inr ⟨g,cap,cur,hv,hg,?_,r⟩;rw[hf.block g (Array.getElem?_eq_some_iff.1 hh).1 (hs g (by rw[hv];rfl))];exact hh
section
variable{ws:Nat→List Int} {w0 wr w1:World} {tb gm E:Nat} {vp vt vup vnode vslot v':Value} {U:List Value} {nn ss:List Int} {mm:Nat→Int} {o:Obj}
theorem br {v:Value} (hg:(wr.alloc o).grownBy w1 v.ownBlock):ae v.ownBlock.toList wr w1:=
 ((ae.refl [] wr).alloc o |>.mono aS).trans (ae.of_grown (S:=v.ownBlock.toList) hg (fun k hk=>.inl (by simp[hk])) |>.mono (fun _ h=>h))
theorem Kl.nod_box (h:Kl ws w0 wr tb gm vp vt vup vnode vslot E U nn ss mm) (hg:(wr.alloc o).grownBy w1 vnode.ownBlock):am w1 tb [vp,vt,.int .u32 0,.int .i32 1,.int .u32 0,vup,vnode,vslot,.slice (some ⟨gm,0,none⟩) E E] 136:=
 h.box.frm (br hg) (fun hm=>by have:=bh h.nod tb (by simpa using hm);have:=h.lt;omega)
theorem Kl.nod_add (h:Kl ws w0 wr tb gm vp vt vup vnode vslot E U nn ss mm) {x:Int} (hown:w1.ownsRow w0.heap.size 3 1 v' (nn.length+1) (nn.map (Value.int .i64)++[.int .i64 x])) (hg:(wr.alloc o).grownBy w1 vnode.ownBlock) (hat:v'.ownBlock=vnode.ownBlock∨v'.ownBlock=some (wr.alloc o).heap.size):
 Kl ws w0 (w1.setCell (tb,6) v') tb gm vp vt vup v' vslot E U (nn++[x]) ss mm:=by
 have hb:=h.nod_box hg;have hf:=br hg;have hlt:=h.lt;have hst:ae [tb] w1 (w1.setCell (tb,6) v'):=aU;have hnew:∀g,v'.ownBlock=some g→vnode.ownBlock=some g∨wr.heap.size<g:=fun g hgg=>by
  rcases hat with e|e
  ·exact .inl (e ▸ hgg)
  ·rw[e,World.size_alloc] at hgg;have:wr.heap.size+1=g:=Option.some.inj hgg;exact .inr aO
 refine{box:=hb.set 6 v',mat:=?_,up:=?_,nod:=?_,slo:=?_,d1:=?_,d2:=?_,lt:=h.lt,frm:=?_,ur:=?_}
 ·exact(h.mat.frm hf (fun hm=>by have:=bh h.nod gm (by simpa using hm);omega)).other _ _ aQ
 ·exact bk (bk h.up hf (fun g hg hm=>(h.d1 g (by simpa using hm)).2 hg)) hst (fun g hgg hm=>by have:=bh h.up g hgg;simp at hm;omega)
 ·have:=bk hown hst (fun g hgg hm=>by have:=bh hown g hgg;simp at hm;omega);simpa using this
 ·exact bk (bk h.slo hf (fun g hg hm=>(h.d1 g (by simpa using hm)).1 hg)) hst (fun g hgg hm=>by have:=bh h.slo g hgg;simp at hm;omega)
 ·intro g hgg;rcases hnew g hgg with e|e
  ·exact h.d1 g e
  ·exact⟨fun hm=>by have:=bh h.slo g hm;omega,fun hm=>by have:=bh h.up g hm;omega⟩
 ·exact h.d2
 ·exact(h.frm.widen hf (fun x hx=>.inr (bh h.nod x (by simpa using hx)).1)).set _ _ (.inl aS)
 ·intro i hi;obtain⟨v,q1,q2,q3⟩:=h.ur i hi;refine⟨v,q1,bk (bk q2 hf (fun g hg hm=>(q3 g hg).2.1 (by simpa using hm))) hst (fun g hgg hm=>by have:=bh q2 g hgg;simp at hm;omega),fun g hgg=>?_⟩;obtain⟨r1,r2,r3⟩:=q3 g hgg;have hgl:=bh q2 g hgg;exact⟨r1,fun hm=>by rcases hnew g hm with e|e;exact r2 e;omega,r3⟩
theorem Kl.slo_box (h:Kl ws w0 wr tb gm vp vt vup vnode vslot E U nn ss mm) (hg:(wr.alloc o).grownBy w1 vslot.ownBlock):am w1 tb [vp,vt,.int .u32 0,.int .i32 1,.int .u32 0,vup,vnode,vslot,.slice (some ⟨gm,0,none⟩) E E] 136:=
 h.box.frm (br hg) (fun hm=>by have:=bh h.slo tb (by simpa using hm);have:=h.lt;omega)
theorem Kl.slo_add (h:Kl ws w0 wr tb gm vp vt vup vnode vslot E U nn ss mm) {x:Int} (hown:w1.ownsRow w0.heap.size 3 1 v' (ss.length+1) (ss.map (Value.int .i64)++[.int .i64 x])) (hg:(wr.alloc o).grownBy w1 vslot.ownBlock) (hat:v'.ownBlock=vslot.ownBlock∨v'.ownBlock=some (wr.alloc o).heap.size):
 Kl ws w0 (w1.setCell (tb,7) v') tb gm vp vt vup vnode v' E U nn (ss++[x]) mm:=by
 have hb:=h.slo_box hg;have hf:=br hg;have hlt:=h.lt;have hst:ae [tb] w1 (w1.setCell (tb,7) v'):=aU;have hnew:∀g,v'.ownBlock=some g→vslot.ownBlock=some g∨wr.heap.size<g:=fun g hgg=>by
  rcases hat with e|e
  ·exact .inl (e ▸ hgg)
  ·rw[e,World.size_alloc] at hgg;have:wr.heap.size+1=g:=Option.some.inj hgg;exact .inr aO
 refine{box:=hb.set 7 v',mat:=?_,up:=?_,nod:=?_,slo:=?_,d1:=?_,d2:=?_,lt:=h.lt,frm:=?_,ur:=?_}
 ·exact(h.mat.frm hf (fun hm=>by have:=bh h.slo gm (by simpa using hm);omega)).other _ _ aQ
 ·exact bk (bk h.up hf (fun g hg hm=>h.d2 g (by simpa using hm) hg)) hst (fun g hgg hm=>by have:=bh h.up g hgg;simp at hm;omega)
 ·exact bk (bk h.nod hf (fun g hg hm=>(h.d1 g hg).1 (by simpa using hm))) hst (fun g hgg hm=>by have:=bh h.nod g hgg;simp at hm;omega)
 ·have:=bk hown hst (fun g hgg hm=>by have:=bh hown g hgg;simp at hm;omega);simpa using this
 ·intro g hgg;refine⟨fun hm=>?_,(h.d1 g hgg).2⟩;rcases hnew g hm with e|e
  ·exact(h.d1 g hgg).1 e
  ·have:=bh h.nod g hgg;omega
 ·intro g hgg hm;rcases hnew g hgg with e|e
  ·exact h.d2 g e hm
  ·have:=bh h.up g hm;omega
 ·exact(h.frm.widen hf (fun x hx=>.inr (bh h.slo x (by simpa using hx)).1)).set _ _ (.inl aS)
 ·intro i hi;obtain⟨v,q1,q2,q3⟩:=h.ur i hi;refine⟨v,q1,bk (bk q2 hf (fun g hg hm=>(q3 g hg).2.2 (by simpa using hm))) hst (fun g hgg hm=>by have:=bh q2 g hgg;simp at hm;omega),fun g hgg=>?_⟩;obtain⟨r1,r2,r3⟩:=q3 g hgg;have hgl:=bh q2 g hgg;exact⟨r1,r2,fun hm=>by rcases hnew g hm with e|e;exact r3 e;omega⟩
theorem Kl.up_box (h:Kl ws w0 wr tb gm vp vt vup vnode vslot E U nn ss mm) (hg:(wr.alloc o).grownBy w1 vup.ownBlock):am w1 tb [vp,vt,.int .u32 0,.int .i32 1,.int .u32 0,vup,vnode,vslot,.slice (some ⟨gm,0,none⟩) E E] 136:=
 h.box.frm (br hg) (fun hm=>by have:=bh h.up tb (by simpa using hm);have:=h.lt;omega)
theorem Kl.up_add (h:Kl ws w0 wr tb gm vp vt vup vnode vslot E U nn ss mm) {x:Value} (hx:wr.ownsRow w0.heap.size 3 1 x (ws U.length).length ((ws U.length).map (Value.int .i64))) (hxn:∀g,x.ownBlock=some g→vup.ownBlock≠some g∧vnode.ownBlock≠some g∧vslot.ownBlock≠some g) (hown:w1.ownsRow w0.heap.size 22 1 v' (U.length+1) (U++[x])) (hg:(wr.alloc o).grownBy w1 vup.ownBlock) (hat:v'.ownBlock=vup.ownBlock∨v'.ownBlock=some (wr.alloc o).heap.size):
 Kl ws w0 (w1.setCell (tb,5) v') tb gm vp vt v' vnode vslot E (U++[x]) nn ss mm:=by
 have hb:=h.up_box hg;have hf:=br hg;have hlt:=h.lt;have hst:ae [tb] w1 (w1.setCell (tb,5) v'):=aU;have hnew:∀g,v'.ownBlock=some g→vup.ownBlock=some g∨wr.heap.size<g:=fun g hgg=>by
  rcases hat with e|e
  ·exact .inl (e ▸ hgg)
  ·rw[e,World.size_alloc] at hgg;have:wr.heap.size+1=g:=Option.some.inj hgg;exact .inr aO
 refine{box:=hb.set 5 v',mat:=?_,up:=?_,nod:=?_,slo:=?_,d1:=?_,d2:=?_,lt:=h.lt,frm:=?_,ur:=?_}
 ·exact(h.mat.frm hf (fun hm=>by have:=bh h.up gm (by simpa using hm);omega)).other _ _ aQ
 ·have:=bk hown hst (fun g hgg hm=>by have:=bh hown g hgg;simp at hm;omega);simpa using this
 ·exact bk (bk h.nod hf (fun g hg hm=>(h.d1 g hg).2 (by simpa using hm))) hst (fun g hgg hm=>by have:=bh h.nod g hgg;simp at hm;omega)
 ·exact bk (bk h.slo hf (fun g hg hm=>h.d2 g hg (by simpa using hm))) hst (fun g hgg hm=>by have:=bh h.slo g hgg;simp at hm;omega)
 ·intro g hgg;refine⟨(h.d1 g hgg).1,fun hm=>?_⟩;rcases hnew g hm with e|e
  ·exact(h.d1 g hgg).2 e
  ·have:=bh h.nod g hgg;omega
 ·intro g hgg hm;rcases hnew g hm with e|e
  ·exact h.d2 g hgg e
  ·have:=bh h.slo g hgg;omega
 ·exact(h.frm.widen hf (fun x hx=>.inr (bh h.up x (by simpa using hx)).1)).set _ _ (.inl aS)
 ·intro i hi;rw[List.length_append,List.length_singleton] at hi;have hxx:∃v,(U++[x])[i]? =some v∧wr.ownsRow w0.heap.size 3 1 v (ws i).length ((ws i).map (Value.int .i64))∧∀g,v.ownBlock=some g→vup.ownBlock≠some g∧vnode.ownBlock≠some g∧vslot.ownBlock≠some g:=by
   by_cases e:i<U.length
   ·obtain⟨v,q1,q2⟩:=h.ur i e;exact⟨v,by rw[List.getElem?_append_left e];exact q1,q2⟩
   ·have:i=U.length:=by omega
    subst this;exact⟨x,by simp,hx,hxn⟩
  obtain⟨v,q1,q2,q3⟩:=hxx;refine⟨v,q1,bk (bk q2 hf (fun g hg hm=>(q3 g hg).1 (by simpa using hm))) hst (fun g hgg hm=>by have:=bh q2 g hgg;simp at hm;omega),fun g hgg=>?_⟩;obtain⟨r1,r2,r3⟩:=q3 g hgg;have hgl:=bh q2 g hgg;exact⟨fun hm=>by rcases hnew g hm with e|e;exact r1 e;omega,r2,r3⟩
theorem Kl.mate (h:Kl ws w0 wr tb gm vp vt vup vnode vslot E U nn ss mm) {j:Nat} {x:Int} {mm':Nat→Int} (h1:mm' j=x) (h2:∀k,k<E→k≠j→mm' k=mm k):Kl ws w0 (wr.setCell (gm,j) (.int .i64 x)) tb gm vp vt vup vnode vslot E U nn ss mm':=by
 have hlt:=h.lt;have hst:ae [gm] wr (wr.setCell (gm,j) (.int .i64 x)):=aU;have hm:=h.mat.set j (.int .i64 x);rw[oT h1 h2] at hm;exact{box:=h.box.frm hst aQ,mat:=hm,up:=bk h.up hst (fun g hgg hm=>by have:=bh h.up g hgg;simp at hm;omega),nod:=bk h.nod hst (fun g hgg hm=>by have:=bh h.nod g hgg;simp at hm;omega),slo:=bk h.slo hst (fun g hgg hm=>by have:=bh h.slo g hgg;simp at hm;omega),d1:=h.d1,d2:=h.d2,lt:=h.lt,frm:=h.frm.set _ _ (.inl aS),ur:=fun i hi=>(by obtain⟨v,q1,q2,q3⟩:=h.ur i hi;exact⟨v,q1,bk q2 hst (fun g hgg hm=>by have:=bh q2 g hgg;simp at hm;omega),q3⟩)}
theorem Kl.fr (h:Kl ws w0 wr tb gm vp vt vup vnode vslot E U nn ss mm) {Z:List Nat} (hf:ae Z wr w1) (hz:∀z∈Z,wr.heap.size≤z):Kl ws w0 w1 tb gm vp vt vup vnode vslot E U nn ss mm:=by
 have hlt:=h.lt;have hsz:=h.frm.size;exact{box:=h.box.frm hf (fun hm=>by have:=hz _ hm;omega),mat:=h.mat.frm hf (fun hm=>by have:=hz _ hm;omega),up:=bk h.up hf (fun g hgg hm=>by have:=(bh h.up g hgg).2;have:=hz _ hm;omega),nod:=bk h.nod hf (fun g hgg hm=>by have:=(bh h.nod g hgg).2;have:=hz _ hm;omega),slo:=bk h.slo hf (fun g hgg hm=>by have:=(bh h.slo g hgg).2;have:=hz _ hm;omega),d1:=h.d1,d2:=h.d2,lt:=h.lt,frm:=h.frm.widen hf (fun x hx=>.inr (by have:=hz x hx;omega)),ur:=fun i hi=>(by obtain⟨v,q1,q2,q3⟩:=h.ur i hi;exact⟨v,q1,bk q2 hf (fun g hgg hm=>by have:=(bh q2 g hgg).2;have:=hz _ hm;omega),q3⟩)}
end
theorem pF {P:List Int} {n f q:Nat} {zs:List Int} {r:List Int} {y2:Int} (hn:n<f) (h:zs++dh P (f - n) (q:Int)=r) (e:y2=P[q]?.getD 0):(zs++[(q:Int)])++dh P (f - (n+1)) y2=r:=by
 obtain⟨g,hg⟩:∃g,f - n=g+1:=⟨f - n - 1,by omega⟩
 rw[hg] at h;have e1:f - (n+1)=g:=by omega
 rw[e1,e,←h,List.append_assoc];congr 1
theorem ru {P:List Int} {n f:Nat} {zs:List Int} {r:List Int} {y:Int} (h0:¬0≤y) (h:zs++dh P (f - n) y=r):zs=r:=by
 have:dh P (f - n) y=[]:=by
  cases f - n with
  |zero=>rfl
  |succ g=>show(if y<0 then[] else _)=_;rw[if_pos aO]
 rw[this,List.append_nil] at h;exact h
theorem np {w:World} {b b':Nat} {T:TypeId} {s k:Nat} {v:Value} {xs:List Value} (h:w.ownsRow b T s v k xs) (hb:b'≤b):w.ownsRow b' T s v k xs:=by
 obtain⟨h1,h2|⟨g,cap,cur,hv,hg,r⟩⟩:=h
 ·exact⟨h1,.inl h2⟩
 ·exact⟨h1,.inr ⟨g,cap,cur,hv,by omega,r⟩⟩
theorem BV {w:World} {tb gp gt:Nat} {vp vt:Value} {P T:List Int} (hs:du P T) (hp:IR w gp vp P) (ht:IR w gt vt T)
 (mT:am w tb [vp,vt,.int .u32 0,.int .i32 1,.int .u32 0,.slice none 0 0,.slice none 0 0,.slice none 0 0,.slice none 0 0] 136):
 Calls prog 110 #[some tb] w fun e w'=>e= .returned (.tuple #[])∧∃vup vnode vslot gm U w0,U.length=T.length∧Kl (fun i=>dh P 40 (T[i]?.getD 0)) w0 w' tb gm vp vt vup vnode vslot (tE P).length U (T.map fun x=>(jl P x:Int)) (dt T T.length) (fun v=>(T.count ((tE P)[v]?.getD 0):Int))∧w.heap.size≤w0.heap.size∧w.heap.size≤gm∧ae [tb] w w'∧IR w' gp vp P∧IR w' gt vt T:=by
 have hs1:=hs.size;obtain⟨s1,s2,s3,s4⟩:=hs1;have HL:=aH (fun(W:World) (hf:ae [] w W)=>xe (hp.frm hf aS).row (ht.frm hf aS).row hs);have hntb:tb≠gp∧tb≠gt:=by
  obtain⟨_,_,_,h1,_⟩:=hp;obtain⟨_,_,_,h2,_⟩:=ht;exact⟨mT.differ h1 aJ,mT.differ h2 aJ⟩
 obtain⟨j0,ja,jb,jc,jd⟩:=info_parts iY;have HII:=aH (And.intro ja (And.intro jb (And.intro jc jd)));obtain⟨i0,ia,ib,ic,id_⟩:=info_parts zu;have HIR:=aH (And.intro ia (And.intro ib (And.intro ic id_)));have mk:=xF (tE P).length (by have:=iJ P;omega);have c0:=mT.cell (i:=0) rfl;have c1:=mT.cell (i:=1) rfl;have hEl:=iJ P;have HB:=aH mT;have HP:=aH hp;have HT:=aH ht;have HOK:=aH hs;have HNT:=aH hntb;have hlt0:=mT.lt;clear hp ht mT hs hntb ja jb jc jd ia ib ic id_;obtain⟨capp,curp,evp, -⟩:=id HP.o;obtain⟨capt,curt,evt, -⟩:=id HT.o;subst evp evt;go_enter func110,ntmps110;go_wp2_with fail;refine(HL.o _ aF).mono ?_;rintro e w1 ⟨u,rfl,hO,hF⟩;have hEne:tE P≠[]:=fun h0=>by
  have hx:T[0]?.getD 0∈T:=by
   rw[List.getElem?_eq_getElem aO];exact List.getElem_mem aO
  have:=j8 HOK.o hx;rw[h0] at this;simp at this
 obtain⟨ge,hge,hE, -⟩:=IR.of_rows hEne hO;obtain⟨cape,cure,eu, -⟩:=id hE;subst eu;have hsz1:=hF.size;have HF1:=aH hF;have HE1:=aH hE;have hB1:=HB.o.frm hF aS;have hA:=hB1.alloc (.cells (fA (tE P).length fun _=>0).toArray 3);have k8:=hA.cell (i:=8) rfl;have z8:=hA.frozen;have hS:=hA.set 8 (.slice (some ⟨w1.heap.size,0,none⟩) (tE P).length (tE P).length);have k1:=hS.cell (i:=1) rfl;have hM:=(am.new w1 (fA (tE P).length fun _=>0).toArray 3).other ⟨tb,8,none⟩ (.slice (some ⟨w1.heap.size,0,none⟩) (tE P).length (tE P).length) aQ;have hF2:ae [tb] w1 ((w1.alloc (.cells (fA (tE P).length fun _=>0).toArray 3)).setCell (tb,8) (.slice (some ⟨w1.heap.size,0,none⟩) (tE P).length (tE P).length)):=(aF.alloc _).set _ _ (.inl aS);have hsz2:((w1.alloc (.cells (fA (tE P).length fun _=>0).toArray 3)).setCell (tb,8) (.slice (some ⟨w1.heap.size,0,none⟩) (tE P).length (tE P).length)).heap.size=w1.heap.size+1:=by simp[World.setCell]
 have HS:=aH (And.intro hS (And.intro hM (And.intro hF2 hsz2)));have hgelt:=hE.lt;clear hO hF hE hB1 hA hS hM hF2 hsz2;go_wp2_with fail;generalize(w1.alloc (.cells (fA (tE P).length fun _=>0).toArray 3)).setCell (tb,8) (.slice (some ⟨w1.heap.size,0,none⟩) (tE P).length (tE P).length)=wL at*;obtain⟨gm,hgm⟩:∃gm,gm=w1.heap.size:=⟨_,rfl⟩
 rw[←hgm];rw[←hgm] at HS;have hszL:gm<wL.heap.size:=by have:=HS.o.2.2.2;omega
 have hgm1:w1.heap.size≤gm:=by omega
 clear hgm;have HTL:=aH ((HT.o.frm HF1.o aS).frm HS.o.2.2.1 (by have:=HNT.o.2;simp;omega));have HPL:=aH ((HP.o.frm HF1.o aS).frm HS.o.2.2.1 (by have:=HNT.o.1;simp;omega));have HEL:=aH (HE1.o.frm HS.o.2.2.1 aQ);clear HB HL HE1 k8 z8 k1 c0 c1;go_loopw[25] (fun iv wr=>∃(k:Nat) (vup vnode vslot:Value) (U:List Value),iv= .int .i64 k∧k≤T.length∧U.length=k∧Kl (fun i=>dh P 40 (T[i]?.getD 0)) wL wr tb gm (.slice (some ⟨gp,0,none⟩) P.length capp) (.slice (some ⟨gt,0,none⟩) T.length capt) vup vnode vslot (tE P).length U ((T.take k).map fun x=>(jl P x:Int)) (dt T k) (fun v=>((T.take k).count ((tE P)[v]?.getD 0):Int))) (fun iv _=>T.length - (intOf iv).toNat)
 case atStart=>
  refine⟨0,_,_,_,[],rfl,Nat.zero_le _,rfl,{box:=HS.o.1,mat:=?_,up:=World.ownsRow_nil _ _ _ _,nod:=World.ownsRow_nil _ _ _ _,slo:=World.ownsRow_nil _ _ _ _,d1:=fun g hg=>by simp[Value.ownBlock] at hg,d2:=fun g hg=>by simp[Value.ownBlock] at hg,lt:=by omega,frm:=aF,ur:=fun i hi=>by simp at hi}⟩;have:=HS.o.2.1;simpa using this
 case round=>
  obtain⟨k,vup,vnode,vslot,U,rfl,hk,hU,hFS⟩:=hrel;have hsz3:=hFS.frm.size;have hng:gt∉[tb,gm]∧gp∉[tb,gm]∧ge∉[tb,gm]:=by
   have a1:=HT.o.lt;have a2:=HP.o.lt;have a3:=HNT.o;simp;omega
  have HNG:=aH hng;obtain⟨mm,hmm⟩:∃mm:Nat→Int,mm=fun v=>((T.take k).count ((tE P)[v]?.getD 0):Int):=⟨_,rfl⟩
  rw[←hmm] at hFS;have HMM:=aH hmm;have HFS:=aH hFS;clear hng hFS hmm;by_cases hlt:k<T.length
  ·have l1:(k:Int)<T.length:=by omega
   obtain⟨x,hx⟩:∃x,x=T[k]?.getD 0:=⟨_,rfl⟩
   have hxm:x∈T:=by rw[hx,List.getElem?_eq_getElem hlt];exact List.getElem_mem hlt
   have hxE:=j8 HOK.o hxm;have hTr:=HTL.o.frm HFS.o.frm HNG.o.1;have cT:wr.cell? (gt,k)=some (.int .i64 x):=by
    obtain⟨_,_,_,hh,_,hc⟩:=hTr;rw[hx];exact hh.cell (hc k hlt)
   have HIX:=aH (r6 (HEL.o.frm HFS.o.frm HNG.o.2.2).row aO hxE);obtain⟨nd,hnd⟩:∃nd,nd=(tE P).idxOf x:=⟨_,rfl⟩
   have hndl:nd<(tE P).length:=by rw[hnd];exact List.idxOf_lt_length_iff.2 hxE
   have hndE:(tE P)[nd]?.getD 0=x:=by rw[hnd,List.getElem?_eq_getElem (List.idxOf_lt_length_iff.2 hxE),Option.getD_some,List.getElem_idxOf (List.idxOf_lt_length_iff.2 hxE)]
   rw[←hnd] at HIX;have HX:=aH hx;have HND:=aH (And.intro hnd hndE);have HXM:=aH (And.intro hxm hxE);have c6:=HFS.o.box.cell (i:=6) rfl;have hml:((T.take k).map fun x=>(jl P x:Int)).length=k:=by simp;omega
   have hno:=HFS.o.nod;rw[hml] at hno;have HNO:=aH hno;clear hno hTr hxm hxE hnd hndE hx;go_wp2_with fail;refine HIX.o.mono ?_;rintro e w' ⟨rfl,rfl⟩;have hkk:k≤32:=by omega
   go_wp2_with(at_builtin;go_must(refine wpList_append_own_at _ rfl _ _ 22 rfl wL.heap.size 3 j0 (.int .i64 0) 1 8 underlying22 HII.o.1 HII.o.2.1 HII.o.2.2.1 HII.o.2.2.2 rfl aJ vnode k _ rfl (HNO.o.alloc _) ⟨wr.heap.size,0,none⟩ 1 1 [nd] rfl rfl (cell_one_new _ _ _) aC aM aO (by rw[World.size_alloc];have:=HFS.o.frm.size;omega) ?_;intro v2 wA hown hgrow _ hat;obtain⟨va,vl,vc,rfl⟩:=b9 hown;have hbx:=HFS.o.nod_box hgrow;have bc:=hbx.cell (i:=6) rfl;have bz:=hbx.frozen;have HA:=aH (HFS.o.nod_add (x:=(nd:Int)) (by rw[hml];exact hown) hgrow hat);clear hown hgrow hat hbx))
   have hFS2:=HA.o;rw[show((T.take k).map fun x=>(jl P x:Int))++[(nd:Int)]=((T.take (k+1)).map fun x=>(jl P x:Int)) from by
    rw[List.take_add_one,List.map_append,List.getElem?_eq_getElem hlt];have:=HX.o;rw[List.getElem?_eq_getElem hlt] at this;simp at this;simp[jl,←this,←HND.o.1]] at hFS2
   have HF2:=aH hFS2;clear hFS2 HA bc bz c6 cT HNO HIX HFS;generalize wA.setCell (tb,6) (.slice va vl vc)=W3 at*;have HF3:=aH (HF2.o.fr (Z:=[]) ((ae.refl [] W3).drew1) aS);have hmn0:mm nd=((T.take k).count x:Int):=by rw[HMM.o];dsimp only;rw[HND.o.2]
   have HM0:=aH hmn0;clear hmn0;have c7:=HF3.o.box.cell (i:=7) rfl;have c8:=HF3.o.box.cell (i:=8) rfl;have cm:=HF3.o.mat.cell (di mm hndl);have hne:Nonempty (HW (fun wx=>wx.cell? (tb,8)=some (.slice (some ⟨gm,0,none⟩) (tE P).length (tE P).length)∧wx.cell? (gm,nd)=some (.int .i64 (mm nd)))):=⟨⟨_,c8,cm⟩⟩
   have hz0:∀q:HW (fun wx=>wx.cell? (tb,8)=some (.slice (some ⟨gm,0,none⟩) (tE P).length (tE P).length)∧wx.cell? (gm,nd)=some (.int .i64 (mm nd))),q.w.cell? (tb,8)=some (.slice (some ⟨gm,0,none⟩) (tE P).length (tE P).length):=fun q=>q.h.1;have hz1:∀q:HW (fun wx=>wx.cell? (tb,8)=some (.slice (some ⟨gm,0,none⟩) (tE P).length (tE P).length)∧wx.cell? (gm,nd)=some (.int .i64 (mm nd))),q.w.cell? (gm,nd)=some (.int .i64 (mm nd)):=fun q=>q.h.2;have l2:(nd:Int)<(tE P).length:=by omega
   have hsl:(dt T k).length=k:=by unfold dt;simp
   have hso:=HF3.o.slo;rw[hsl] at hso;have HSO:=aH hso;have CC:=aH (And.intro c8 cm);clear hso HF2 c8 cm;refine aG (fun wx=>wx.cell? (tb,8)=some (.slice (some ⟨gm,0,none⟩) (tE P).length (tE P).length)∧wx.cell? (gm,nd)=some (.int .i64 (mm nd))) ?_;generalize W3.drew=W4 at*;refine aR (fuel:=6) [0,1,2,3,5,6,7,8,9,10,11] rfl CC.o ?_;intro K hK;repeat (go_big_quiet_step (fail))
   refine wpQuiet_nil (hK _ ?_);clear hK K;refine oV (i:=4) (j:=12) (fuel:=5) rfl rfl aK ?_ ?_
   ·go_wp2_with fail;refine af ⟨CC.o,?_⟩;refine aL 12 (fuel:=4) rfl ?_;go_wp2_with fail;refine af ⟨⟨((ae.refl [] W4).alloc (.cells #[(mm nd:Int)] 3)).cell CC.o.1 aS,((ae.refl [] W4).alloc (.cells #[(mm nd:Int)] 3)).cell CC.o.2 aS⟩,?_⟩;refine aL 13 (fuel:=3) rfl ?_;go_wp2_with(at_builtin;go_must(refine wpList_append_own_at _ rfl _ _ 22 rfl wL.heap.size 3 j0 (.int .i64 0) 1 8 underlying22 HII.o.1 HII.o.2.1 HII.o.2.2.1 HII.o.2.2.2 rfl aJ vslot k _ rfl (HSO.o.alloc _) ⟨W4.heap.size,0,none⟩ 1 1 [(mm nd:Int)] rfl rfl (cell_one_new _ _ _) aC aM aO (by rw[World.size_alloc];have:=HF3.o.frm.size;omega) ?_;intro v3 wB hown hgrow _ hat;obtain⟨xa,xl,xc,rfl⟩:=b9 hown;have hbx:=HF3.o.slo_box hgrow;have bc:=hbx.cell (i:=7) rfl;have b8:=hbx.cell (i:=8) rfl;have bz:=hbx.frozen;have bm:=(HF3.o.mat.frm (br hgrow) (fun hm=>by have h8:=bh HF3.o.slo gm (by simpa using hm);have h9:=HF3.o.lt;omega)).cell (di mm hndl);have HB3:=aH (HF3.o.slo_add (x:=mm nd) (by rw[hsl];exact hown) hgrow hat);have CB:=aH (And.intro b8 bm);clear hown hgrow hat hbx b8 bm))
    refine af ⟨CB.o,?_⟩;refine aR (fuel:=1) [14,15] rfl CB.o ?_;intro K hK;repeat (go_big_quiet_step (fail))
    refine wpQuiet_nil (hK _ ?_);clear hK K;refine aL 16 (fuel:=0) rfl ?_;go_wp2_with fail;refine af ⟨⟨HB3.o.box.cell (i:=8) rfl,HB3.o.mat.cell (di mm hndl)⟩,?_⟩;refine aN ?_;have hFS3:=HB3.o;rw[show dt T k++[mm nd]=dt T (k+1) from by rw[mA,←HX.o,HM0.o]] at hFS3;have HF4:=aH hFS3;clear hFS3 HB3 CB bc bz hne hz0 hz1 c7 HSO HF3;generalize wB.setCell (tb,7) (.slice xa xl xc)=W5 at*;have c8:=HF4.o.box.cell (i:=8) rfl;have cm:=HF4.o.mat.cell (di mm hndl);have cz:=HF4.o.mat.frozen;have hmb:0≤mm nd∧mm nd≤32:=by
     rw[HM0.o];have:=List.count_le_length (a:=x) (l:=T.take k);simp at this;omega
    have hj1:((T.take (k+1)).count ((tE P)[nd]?.getD 0):Int)=mm nd+1:=by rw[HND.o.2,HM0.o,iu hlt,if_pos HX.o.symm]
    have hj2:∀v,v<(tE P).length→v≠nd→((T.take (k+1)).count ((tE P)[v]?.getD 0):Int)=mm v:=fun v hv hne'=>by
     have e:mm v=((T.take k).count ((tE P)[v]?.getD 0):Int):=by rw[HMM.o]
     rw[e,iu hlt,if_neg (fun e=>hne' (AO hv hndl (by rw[HND.o.2,HX.o];exact e.symm)))];omega
    have HF5:=aH (HF4.o.mate (j:=nd) (x:=mm nd+1) (mm':=fun v=>((T.take (k+1)).count ((tE P)[v]?.getD 0):Int)) hj1 hj2);clear hj1 hj2;have hxr:0≤x∧x<(P.length:Int):=by
     have:=HOK.o.ends x HXM.o.1;unfold df at this;simp at this;exact⟨this.1.1,this.1.2⟩
    go_wp2_with fail;generalize W5.setCell (gm,nd) (.int .i64 (mm nd+1))=W6 at*;clear c8 cm cz hmb HF4 CC hndl l2 hsl;have HTR:=aH HOK.o.tree;go_loopw[6,7] (fun uv vv wx=>∃(y:Int) (n:Nat) (zs:List Int),vv= .int .i64 y∧(-1≤y∧y<(P.length:Int))∧(n:Int)+(y+1)≤40∧zs.length=n∧Hy (zs++dh P (40 - n) y=dh P 40 x)∧wx.ownsRow W6.heap.size 3 1 uv n (zs.map (Value.int .i64))∧ae [] W6 wx) (fun _ vv _=>(intOf vv+1).toNat)
    case atStart=>exact⟨x,0,[],rfl,by omega,by omega,rfl,aH rfl,World.ownsRow_nil _ _ _ _,aF⟩
    case round=>
     obtain⟨y,n,zs,rfl,hy,hny,hzl,HZ,hO,hF⟩:=hrel;have HZL:=aH hzl;clear hzl;have HO:=aH hO;have HF:=aH hF;have hszx:=hF.size;obtain⟨ua,ul,uc,rfl⟩:=b9 hO;clear hO hF;by_cases h0:0≤y
     ·obtain⟨q,rfl⟩:=Int.eq_ofNat_of_zero_le h0;have hq:q<P.length:=by omega
      have dg:decide ((0:Int)≤(q:Int))=true:=by simp
      have lq:(q:Int)<P.length:=by omega
      obtain⟨y2,hy2⟩:∃z,z=P[q]?.getD 0:=⟨_,rfl⟩
      have htr: -1≤y2∧y2<(q:Int):=by
       obtain⟨t0,t1⟩:=HTR.o;rw[hy2];by_cases hq0:q=0
       ·subst hq0;rw[t0];omega
       ·have:=t1 q aO hq;omega
      have HZ2:=aH (pF (n:=n) (f:=40) aO HZ.o hy2);have HY2:=aH hy2;clear hy h0 hy2;go_wp2_with(at_builtin;go_must(refine wpList_append_own_at _ rfl _ _ 22 rfl W6.heap.size 3 j0 (.int .i64 0) 1 8 underlying22 HII.o.1 HII.o.2.1 HII.o.2.2.1 HII.o.2.2.2 rfl aJ (.slice ua ul uc) n _ rfl (HO.o.alloc _) ⟨wr.heap.size,0,none⟩ 1 1 [q] rfl rfl (cell_one_new _ _ _) aC aM aO (by rw[World.size_alloc];omega) ?_;intro v4 wC hown hgrow _ hat;have HO2:=aH (by have h9:=hown;rw[show zs.map (Value.int .i64)++[Value.int .i64 (q:Int)]=(zs++[(q:Int)]).map (Value.int .i64) from by simp] at h9;exact h9);have HFC:=aH (HF.o.widen (br hgrow) (fun z hz=>.inr (bh HO.o z (by simpa using hz)).1));have p0:=(HF5.o.fr HFC.o aS).box.cell (i:=0) rfl;have pq:=jN (HPL.o.frm (HF5.o.fr HFC.o aS).frm HNG.o.2.1) hq;rw[←HY2.o] at pq;clear hown hgrow hat))
      go_roundw
      case rel=>exact⟨_,n+1,zs++[(q:Int)],rfl,by omega,by omega,by rw[List.length_append,HZL.o];rfl,HZ2,HO2.o,HFC.o⟩
      case measure=>simp[intOf];omega
     ·have dg:decide ((0:Int)≤y)=false:=by simpa using h0
      have HF8:=aH (HF5.o.fr HF.o aS);have c5:=HF8.o.box.cell (i:=5) rfl;have hup:=HF8.o.up;rw[hU] at hup;have HU8:=aH hup;have hzz:=ru (n:=n) (f:=40) h0 HZ.o;have hxr:wr.ownsRow wL.heap.size 3 1 (.slice ua ul uc) (dh P 40 (T[U.length]?.getD 0)).length ((dh P 40 (T[U.length]?.getD 0)).map (Value.int .i64)):=by
       rw[hU,←HX.o,←hzz,HZL.o];exact np HO.o HF5.o.frm.size
      have hxn:∀g,(Value.slice ua ul uc).ownBlock=some g→vup.ownBlock≠some g∧(Value.slice va vl vc).ownBlock≠some g∧(Value.slice xa xl xc).ownBlock≠some g:=fun g hg=>by
       have h1:=(bh HO.o g hg).1;exact⟨fun hm=>by have h2:=(bh HF5.o.up g hm).2;omega,fun hm=>by have h2:=(bh HF5.o.nod g hm).2;omega,fun hm=>by have h2:=(bh HF5.o.slo g hm).2;omega⟩
      have HXR:=aH (And.intro hxr hxn);clear hup hxr hxn hzz;go_wp2_with(at_builtin;go_must(refine wpList_append_own_at _ rfl _ _ 134 rfl wL.heap.size 22 i0 (.slice none 0 0) 1 24 underlying134 HIR.o.1 HIR.o.2.1 HIR.o.2.2.1 HIR.o.2.2.2 rfl aJ vup k _ rfl (HU8.o.alloc _) ⟨wr.heap.size,0,none⟩ 1 1 [.slice ua ul uc] rfl rfl (cell_one_new _ _ _) aC aM aO (by rw[World.size_alloc];have:=HF8.o.frm.size;omega) ?_;intro v5 wD hown hgrow _ hat;obtain⟨ya,yl,yc,rfl⟩:=b9 hown;have hbx:=HF8.o.up_box hgrow;have bc:=hbx.cell (i:=5) rfl;have bz:=hbx.frozen;have HA:=aH (HF8.o.up_add (x:=.slice ua ul uc) HXR.o.1 HXR.o.2 (by rw[hU];exact hown) hgrow hat);clear hown hgrow hat hbx))
      go_roundw
      case rel=>exact⟨k+1,_,_,_,_,by go_num,by omega,by simp[hU],HA.o⟩
      case measure=>simp[intOf];omega
   ·go_wp2_with fail;refine af ⟨⟨((ae.refl [] W4).alloc (.cells #[(mm nd:Int)] 3)).cell CC.o.1 aS,((ae.refl [] W4).alloc (.cells #[(mm nd:Int)] 3)).cell CC.o.2 aS⟩,?_⟩;have c7b:=((ae.refl [] W4).alloc (.cells #[(mm nd:Int)] 3)).cell c7 aS;refine aL 4 (fuel:=4) rfl ?_;go_wp2_with fail;refine af ⟨⟨((ae.refl [] W4).alloc (.cells #[(mm nd:Int)] 3)).cell CC.o.1 aS,((ae.refl [] W4).alloc (.cells #[(mm nd:Int)] 3)).cell CC.o.2 aS⟩,?_⟩;clear c7b;refine aL 13 (fuel:=3) rfl ?_;go_wp2_with(at_builtin;go_must(refine wpList_append_own_at _ rfl _ _ 22 rfl wL.heap.size 3 j0 (.int .i64 0) 1 8 underlying22 HII.o.1 HII.o.2.1 HII.o.2.2.1 HII.o.2.2.2 rfl aJ vslot k _ rfl (HSO.o.alloc _) ⟨W4.heap.size,0,none⟩ 1 1 [(mm nd:Int)] rfl rfl (cell_one_new _ _ _) aC aM aO (by rw[World.size_alloc];have:=HF3.o.frm.size;omega) ?_;intro v3 wB hown hgrow _ hat;obtain⟨xa,xl,xc,rfl⟩:=b9 hown;have hbx:=HF3.o.slo_box hgrow;have bc:=hbx.cell (i:=7) rfl;have b8:=hbx.cell (i:=8) rfl;have bz:=hbx.frozen;have bm:=(HF3.o.mat.frm (br hgrow) (fun hm=>by have h8:=bh HF3.o.slo gm (by simpa using hm);have h9:=HF3.o.lt;omega)).cell (di mm hndl);have HB3:=aH (HF3.o.slo_add (x:=mm nd) (by rw[hsl];exact hown) hgrow hat);have CB:=aH (And.intro b8 bm);clear hown hgrow hat hbx b8 bm))
    refine af ⟨CB.o,?_⟩;refine aR (fuel:=1) [14,15] rfl CB.o ?_;intro K hK;repeat (go_big_quiet_step (fail))
    refine wpQuiet_nil (hK _ ?_);clear hK K;refine aL 16 (fuel:=0) rfl ?_;go_wp2_with fail;refine af ⟨⟨HB3.o.box.cell (i:=8) rfl,HB3.o.mat.cell (di mm hndl)⟩,?_⟩;refine aN ?_;have hFS3:=HB3.o;rw[show dt T k++[mm nd]=dt T (k+1) from by rw[mA,←HX.o,HM0.o]] at hFS3;have HF4:=aH hFS3;clear hFS3 HB3 CB bc bz hne hz0 hz1 c7 HSO HF3;generalize wB.setCell (tb,7) (.slice xa xl xc)=W5 at*;have c8:=HF4.o.box.cell (i:=8) rfl;have cm:=HF4.o.mat.cell (di mm hndl);have cz:=HF4.o.mat.frozen;have hmb:0≤mm nd∧mm nd≤32:=by
     rw[HM0.o];have:=List.count_le_length (a:=x) (l:=T.take k);simp at this;omega
    have hj1:((T.take (k+1)).count ((tE P)[nd]?.getD 0):Int)=mm nd+1:=by rw[HND.o.2,HM0.o,iu hlt,if_pos HX.o.symm]
    have hj2:∀v,v<(tE P).length→v≠nd→((T.take (k+1)).count ((tE P)[v]?.getD 0):Int)=mm v:=fun v hv hne'=>by
     have e:mm v=((T.take k).count ((tE P)[v]?.getD 0):Int):=by rw[HMM.o]
     rw[e,iu hlt,if_neg (fun e=>hne' (AO hv hndl (by rw[HND.o.2,HX.o];exact e.symm)))];omega
    have HF5:=aH (HF4.o.mate (j:=nd) (x:=mm nd+1) (mm':=fun v=>((T.take (k+1)).count ((tE P)[v]?.getD 0):Int)) hj1 hj2);clear hj1 hj2;have hxr:0≤x∧x<(P.length:Int):=by
     have:=HOK.o.ends x HXM.o.1;unfold df at this;simp at this;exact⟨this.1.1,this.1.2⟩
    go_wp2_with fail;generalize W5.setCell (gm,nd) (.int .i64 (mm nd+1))=W6 at*;clear c8 cm cz hmb HF4 CC hndl l2 hsl;have HTR:=aH HOK.o.tree;go_loopw[6,7] (fun uv vv wx=>∃(y:Int) (n:Nat) (zs:List Int),vv= .int .i64 y∧(-1≤y∧y<(P.length:Int))∧(n:Int)+(y+1)≤40∧zs.length=n∧Hy (zs++dh P (40 - n) y=dh P 40 x)∧wx.ownsRow W6.heap.size 3 1 uv n (zs.map (Value.int .i64))∧ae [] W6 wx) (fun _ vv _=>(intOf vv+1).toNat)
    case atStart=>exact⟨x,0,[],rfl,by omega,by omega,rfl,aH rfl,World.ownsRow_nil _ _ _ _,aF⟩
    case round=>
     obtain⟨y,n,zs,rfl,hy,hny,hzl,HZ,hO,hF⟩:=hrel;have HZL:=aH hzl;clear hzl;have HO:=aH hO;have HF:=aH hF;have hszx:=hF.size;obtain⟨ua,ul,uc,rfl⟩:=b9 hO;clear hO hF;by_cases h0:0≤y
     ·obtain⟨q,rfl⟩:=Int.eq_ofNat_of_zero_le h0;have hq:q<P.length:=by omega
      have dg:decide ((0:Int)≤(q:Int))=true:=by simp
      have lq:(q:Int)<P.length:=by omega
      obtain⟨y2,hy2⟩:∃z,z=P[q]?.getD 0:=⟨_,rfl⟩
      have htr: -1≤y2∧y2<(q:Int):=by
       obtain⟨t0,t1⟩:=HTR.o;rw[hy2];by_cases hq0:q=0
       ·subst hq0;rw[t0];omega
       ·have:=t1 q aO hq;omega
      have HZ2:=aH (pF (n:=n) (f:=40) aO HZ.o hy2);have HY2:=aH hy2;clear hy h0 hy2;go_wp2_with(at_builtin;go_must(refine wpList_append_own_at _ rfl _ _ 22 rfl W6.heap.size 3 j0 (.int .i64 0) 1 8 underlying22 HII.o.1 HII.o.2.1 HII.o.2.2.1 HII.o.2.2.2 rfl aJ (.slice ua ul uc) n _ rfl (HO.o.alloc _) ⟨wr.heap.size,0,none⟩ 1 1 [q] rfl rfl (cell_one_new _ _ _) aC aM aO (by rw[World.size_alloc];omega) ?_;intro v4 wC hown hgrow _ hat;have HO2:=aH (by have h9:=hown;rw[show zs.map (Value.int .i64)++[Value.int .i64 (q:Int)]=(zs++[(q:Int)]).map (Value.int .i64) from by simp] at h9;exact h9);have HFC:=aH (HF.o.widen (br hgrow) (fun z hz=>.inr (bh HO.o z (by simpa using hz)).1));have p0:=(HF5.o.fr HFC.o aS).box.cell (i:=0) rfl;have pq:=jN (HPL.o.frm (HF5.o.fr HFC.o aS).frm HNG.o.2.1) hq;rw[←HY2.o] at pq;clear hown hgrow hat))
      go_roundw
      case rel=>exact⟨_,n+1,zs++[(q:Int)],rfl,by omega,by omega,by rw[List.length_append,HZL.o];rfl,HZ2,HO2.o,HFC.o⟩
      case measure=>simp[intOf];omega
     ·have dg:decide ((0:Int)≤y)=false:=by simpa using h0
      have HF8:=aH (HF5.o.fr HF.o aS);have c5:=HF8.o.box.cell (i:=5) rfl;have hup:=HF8.o.up;rw[hU] at hup;have HU8:=aH hup;have hzz:=ru (n:=n) (f:=40) h0 HZ.o;have hxr:wr.ownsRow wL.heap.size 3 1 (.slice ua ul uc) (dh P 40 (T[U.length]?.getD 0)).length ((dh P 40 (T[U.length]?.getD 0)).map (Value.int .i64)):=by
       rw[hU,←HX.o,←hzz,HZL.o];exact np HO.o HF5.o.frm.size
      have hxn:∀g,(Value.slice ua ul uc).ownBlock=some g→vup.ownBlock≠some g∧(Value.slice va vl vc).ownBlock≠some g∧(Value.slice xa xl xc).ownBlock≠some g:=fun g hg=>by
       have h1:=(bh HO.o g hg).1;exact⟨fun hm=>by have h2:=(bh HF5.o.up g hm).2;omega,fun hm=>by have h2:=(bh HF5.o.nod g hm).2;omega,fun hm=>by have h2:=(bh HF5.o.slo g hm).2;omega⟩
      have HXR:=aH (And.intro hxr hxn);clear hup hxr hxn hzz;go_wp2_with(at_builtin;go_must(refine wpList_append_own_at _ rfl _ _ 134 rfl wL.heap.size 22 i0 (.slice none 0 0) 1 24 underlying134 HIR.o.1 HIR.o.2.1 HIR.o.2.2.1 HIR.o.2.2.2 rfl aJ vup k _ rfl (HU8.o.alloc _) ⟨wr.heap.size,0,none⟩ 1 1 [.slice ua ul uc] rfl rfl (cell_one_new _ _ _) aC aM aO (by rw[World.size_alloc];have:=HF8.o.frm.size;omega) ?_;intro v5 wD hown hgrow _ hat;obtain⟨ya,yl,yc,rfl⟩:=b9 hown;have hbx:=HF8.o.up_box hgrow;have bc:=hbx.cell (i:=5) rfl;have bz:=hbx.frozen;have HA:=aH (HF8.o.up_add (x:=.slice ua ul uc) HXR.o.1 HXR.o.2 (by rw[hU];exact hown) hgrow hat);clear hown hgrow hat hbx))
      go_roundw
      case rel=>exact⟨k+1,_,_,_,_,by go_num,by omega,by simp[hU],HA.o⟩
      case measure=>simp[intOf];omega
  ·have hke:k=T.length:=by omega
   subst hke;have hFS9:=HFS.o;rw[HMM.o] at hFS9;simp only[List.take_length] at hFS9;have HF9:=aH hFS9;have HFW:=aH (HF1.o.mono (S':=[tb]) aS |>.trans HS.o.2.2.1);clear hFS9;go_wp2_with fail;go_end0;have hfr:=HF9.o.frm;have hfw:ae [tb] w wr:=HFW.o.widen hfr (fun z hz=>by
    simp at hz;rcases hz with e|e
    ·exact .inl (by simp[e])
    ·exact .inr aO)
   refine⟨rfl,vup,vnode,vslot,gm,U,wL,hU,HF9.o,by omega,by omega,hfw,HPL.o.frm hfr HNG.o.2.1,HTL.o.frm hfr HNG.o.1⟩
def pj (w:World) (Z:List Nat):Prop:=∀z∈Z,∃vs T,am w z vs T∧(T=138∨T=93∨T=158)
theorem pj.not {w:World} {Z:List Nat} (h:pj w Z) {b:Nat} {vs:List Value} {T:TypeId} (hb:am w b vs T) (h1:T≠138:=by decide) (h2:T≠93:=by decide) (h3:T≠158:=by decide):b∉Z:=by
 intro hm;obtain⟨us,U,hu,ht⟩:=h b hm;refine absurd rfl (hb.differ hu (fun e=>?_));subst e;rcases ht with e|e|e
 ·exact h1 e
 ·exact h2 e
 ·exact h3 e
def oW (w:World) (tb:Nat) (P T:List Int):Prop:=∃(vp vt:Value) (gp gt:Nat),am w tb [vp,vt,.int .u32 0,.int .i32 0,.int .u32 0,.slice none 0 0,.slice none 0 0,.slice none 0 0,.slice none 0 0] 136∧IR w gp vp P∧IR w gt vt T
def gh (w:World) (tb:Nat) (P T:List Int):Prop:=∃(vp vt vup vnode vslot vm:Value) (gt gn gs gm:Nat),am w tb [vp,vt,.int .u32 1,.int .i32 0,.int .u32 0,vup,vnode,vslot,vm] 136∧IR w gt vt T∧
 IR w gn vnode (T.map fun x=>(jl P x:Int))∧IR w gs vslot (dt T T.length)∧IR w gm vm ((tE P).map fun x=>(T.count x:Int))
def vw (w:World) (tb:Nat) (P T:List Int):Prop:=∃(vp vt vup vnode vslot vm:Value) (U:List Value),am w tb [vp,vt,.int .u32 1,.int .i32 0,.int .u32 0,vup,vnode,vslot,vm] 136∧w.ownsRow 0 22 1 vup T.length U∧
 ∀i,i<T.length→∃v,U[i]? =some v∧w.ownsRow 0 3 1 v (dh P 40 (T[i]?.getD 0)).length ((dh P 40 (T[i]?.getD 0)).map (Value.int .i64))
theorem IR.stay {w w':World} {g:Nat} {v:Value} {zs:List Int} (h:IR w g v zs) {Z:List Nat} (hf:ae Z w w') (hz:pj w Z):IR w' g v zs:=by
 have h0:=h;obtain⟨_,_,_,hh,_⟩:=h;exact h0.frm hf (hz.not hh)
theorem gh.stay {w w':World} {tb:Nat} {P T:List Int} (h:gh w tb P T) {Z:List Nat} (hf:ae Z w w') (hz:pj w Z):gh w' tb P T:=by
 obtain⟨vp,vt,vup,vnode,vslot,vm,gt,gn,gs,gm,h1,h2,h3,h4,h5⟩:=h;exact⟨vp,vt,vup,vnode,vslot,vm,gt,gn,gs,gm,h1.frm hf (hz.not h1),h2.stay hf hz,h3.stay hf hz,h4.stay hf hz,h5.stay hf hz⟩
theorem oW.stay {w w':World} {tb:Nat} {P T:List Int} (h:oW w tb P T) {Z:List Nat} (hf:ae Z w w') (hz:pj w Z):oW w' tb P T:=by
 obtain⟨vp,vt,gp,gt,h1,h2,h3⟩:=h;exact⟨vp,vt,gp,gt,h1.frm hf (hz.not h1),h2.stay hf hz,h3.stay hf hz⟩
theorem pj.nil (w:World):pj w []:=fun z hz=>by simp at hz
section
variable{w:World} {tb:Nat} {P T:List Int}
theorem dU (h:gh w tb P T):Calls prog 103 #[some tb] w fun e w'=>e= .returned (some tb)∧w=w':=by
 obtain⟨vp,vt,vup,vnode,vslot,vm,gt,gn,gs,gm,h1, -⟩:=h;have HD:=aH (fun fv=>vu ⟨tb,2,none⟩ fv w (h1.cell (i:=2) rfl));have hmf:= @aY prog;clear h1;go_enter func103,ntmps103;go_wp2_with(go_at_call 109;refine(HD.o _).mono ?_;rintro e w' ⟨rfl,rfl⟩)
 go_ret;exact⟨rfl,rfl⟩
theorem kG (h:oW w tb P T) (hs:du P T):Calls prog 103 #[some tb] w fun e w'=>e= .returned (some tb)∧gh w' tb P T∧vw w' tb P T∧ae [tb] w w':=by
 obtain⟨vp,vt,gp,gt,h1,h2,h3⟩:=h;have hst:ae [tb] w (w.setCell (tb,3) (.int .i32 1)):=aU;have hn:gp∉[tb]∧gt∉[tb]:=by
  obtain⟨_,_,_,a1,_⟩:=h2;obtain⟨_,_,_,a2,_⟩:=h3;have:=h1.differ a1 aJ;have:=h1.differ a2 aJ;simp;omega
 have hfind:=BV hs (h2.frm hst hn.1) (h3.frm hst hn.2) (h1.set 3 (.int .i32 1));have hO:=sD tb (fun w2=>∃vup vnode vslot gm U w0,U.length=T.length∧Kl (fun i=>dh P 40 (T[i]?.getD 0)) w0 w2 tb gm vp vt vup vnode vslot (tE P).length U (T.map fun x=>(jl P x:Int)) (dt T T.length) (fun v=>(T.count ((tE P)[v]?.getD 0):Int))∧IR w2 gt vt T∧ae [tb] w w2) w (h1.cell (i:=2) rfl) (h1.cell (i:=3) rfl) (h1.frozen 3) (hfind.mono fun e w' ⟨e1,vup,vnode,vslot,gm,U,w0,hU,hFS,_,_,hF,_,hT⟩=>⟨e1,⟨hFS.box.cell (i:=2) rfl,hFS.box.cell (i:=3) rfl,hFS.box.frozen 2,hFS.box.frozen 3⟩,vup,vnode,vslot,gm,U,w0,hU,hFS,hT,hst.trans hF⟩);have HO:=aH hO;have HOK:=aH hs;have hmf:= @aY prog;clear hO hfind hst h1 h2 h3 hn hs;go_enter func103,ntmps103;go_wp2_with(go_at_call 109;refine HO.o.mono ?_;rintro e w' ⟨rfl,hQ⟩;have HQ:=aH hQ;clear hQ)
 go_ret;obtain⟨w2,⟨vup,vnode,vslot,gm,U,w0,hU,hFS,hT,hF⟩,rfl⟩:=HQ.o;obtain⟨s1,s2,s3,s4⟩:=HOK.o.size;have hEne:tE P≠[]:=fun h0=>by
  have hx:T[0]?.getD 0∈T:=by
   rw[List.getElem?_eq_getElem aO];exact List.getElem_mem aO
  have:=j8 HOK.o hx;rw[h0] at this;simp at this
 have hEl:=iJ P;have hb:=(hFS.box.drew1.set 2 (.int .u32 1)).set 3 (.int .i32 0);have hst:ae [tb] w2 ((w2.drew.setCell (tb,2) (.int .u32 1)).setCell (tb,3) (.int .i32 0)):=((aF.drew1).set _ _ (.inl aS)).set _ _ (.inl aS);have hn1:(T.map fun x=>(jl P x:Int))≠[]:=by
  intro h0;have:=congrArg List.length h0;rw[List.length_map,List.length_nil] at this;omega
 have hn2:dt T T.length≠[]:=by
  intro h0;have:=congrArg List.length h0;unfold dt at this;rw[List.length_map,List.length_range,List.length_nil] at this;omega
 obtain⟨gn,hgn,hN, -⟩:=IR.of_rows hn1 hFS.nod;obtain⟨gs,hgs,hS, -⟩:=IR.of_rows hn2 hFS.slo;have hlt:=hFS.lt;have hgt:gt∉[tb]:=by
  obtain⟨_,_,_,a2,_⟩:=hT;have:=hFS.box.differ a2 aJ;simp;omega
 have hM:IR w2 gm (.slice (some ⟨gm,0,none⟩) (tE P).length (tE P).length) ((tE P).map fun x=>(T.count x:Int)):=by
  refine⟨(tE P).length,_,by simp,hFS.mat,by unfold maxLen;simp;omega,fun i hi=>?_⟩;have hi':i<(tE P).length:=by simpa using hi
  rw[di _ hi'];simp[hi']
 refine⟨rfl,⟨vp,vt,vup,vnode,vslot,_,gt,gn,gs,gm,hb,hT.frm hst hgt,hN.frm hst aQ,hS.frm hst aQ,hM.frm hst aQ⟩,⟨vp,vt,vup,vnode,vslot,_,U,hb,?_,fun i hi=>?_⟩,hF.trans hst⟩
 ·have:=bk (np hFS.up (Nat.zero_le _)) hst (fun g hg=>by have:=bh hFS.up g hg;simp;omega)
  rwa [hU] at this
 ·obtain⟨v,q1,q2, -⟩:=hFS.ur i aO;exact⟨v,q1,bk (np q2 (Nat.zero_le _)) hst (fun g hg=>by have:=bh q2 g hg;simp;omega)⟩
theorem mz (h:oW w tb P T) (hs:du P T):Calls prog 103 #[some tb] w fun e w'=>e= .returned (some tb)∧gh w' tb P T∧ae [tb] w w':=
 (kG h hs).mono fun _ _ ⟨h1,h2,_,h3⟩=>⟨h1,h2,h3⟩
theorem fS (h:oW w tb P T):Calls prog 86 #[some tb] w fun e w'=>e= .returned T.length∧w=w':=by
 obtain⟨vp,vt,gp,gt,h1,h2,⟨cap,cur,rfl, -⟩⟩:=h;have c1:=h1.cell (i:=1) rfl;clear h1 h2;go_enter func86,ntmps86;go_wp2;go_ret;exact⟨rfl,rfl⟩
theorem jQ (h:gh w tb P T):Calls prog 86 #[some tb] w fun e w'=>e= .returned T.length∧w=w':=by
 obtain⟨vp,vt,vup,vnode,vslot,vm,gt,gn,gs,gm,h1,⟨cap,cur,rfl, -⟩, -⟩:=h;have c1:=h1.cell (i:=1) rfl;clear h1;go_enter func86,ntmps86;go_wp2;go_ret;exact⟨rfl,rfl⟩
theorem td (h:gh w tb P T) {i:Nat} (hi:i<T.length):Calls prog 104 #[some tb,i] w fun e w'=>e= .returned true∧w=w':=by
 have HT:=aH (jQ h);have d1:decide ((0:Int)≤(i:Int))=true:=by simp
 have d2:decide ((i:Int)<(T.length:Int))=true:=by simpa using hi
 have d3:decide (i<T.length)=true:=by simpa using hi
 clear h hi;go_enter func104,ntmps104;go_wp2_with fail;refine HT.o.mono ?_;rintro e w' ⟨rfl,rfl⟩;go_wp2;go_ret;exact⟨rfl,rfl⟩
theorem fC (h:gh w tb P T) {i:Nat} (hi:i<T.length):Calls prog 94 #[some tb,i] w fun e w'=>e= .returned (jl P (T[i]?.getD 0):Int)∧w=w':=by
 have HH:=aH (td h hi);have HF:=aH (dU h);obtain⟨vp,vt,vup,vnode,vslot,vm,gt,gn,gs,gm,h1, -,h3, -⟩:=h;have ci:=jN h3 (k:=i) (by simpa using hi);have ei:(T.map fun x=>(jl P x:Int))[i]?.getD 0=(jl P (T[i]?.getD 0):Int):=by simp[hi]
 rw[ei] at ci;obtain⟨cap,cur,rfl, -⟩:=h3;have c6:=h1.cell (i:=6) rfl;rw[List.length_map] at c6;have l1:(i:Int)<T.length:=by omega
 have hnot:= @aX prog;generalize(jl P (T[i]?.getD 0):Int)=y at*;clear h1 ei hi;go_enter func94,ntmps94;go_wp2_with fail;refine HH.o.mono ?_;rintro e w' ⟨rfl,rfl⟩;go_wp2_with fail;refine HF.o.mono ?_;rintro e w' ⟨rfl,rfl⟩;go_wp2;go_ret;exact⟨rfl,rfl⟩
theorem uG (h:gh w tb P T) {i:Nat} (hi:i<T.length):Calls prog 92 #[some tb,i] w fun e w'=>e= .returned ((T.take i).count (T[i]?.getD 0):Nat)∧w=w':=by
 have HH:=aH (td h hi);have HF:=aH (dU h);obtain⟨vp,vt,vup,vnode,vslot,vm,gt,gn,gs,gm,h1, -, -,h3, -⟩:=h;have hsl:(dt T T.length).length=T.length:=by unfold dt;simp
 have ci:=jN h3 (k:=i) aO;have ei:(dt T T.length)[i]?.getD 0=(((T.take i).count (T[i]?.getD 0):Nat):Int):=by unfold dt;simp[hi]
 rw[ei] at ci;obtain⟨cap,cur,rfl, -⟩:=h3;have c7:=h1.cell (i:=7) rfl;rw[hsl] at c7;have l1:(i:Int)<T.length:=by omega
 have hnot:= @aX prog;generalize(((T.take i).count (T[i]?.getD 0):Nat):Int)=y at*;clear h1 ei hi hsl;go_enter func92,ntmps92;go_wp2_with fail;refine HH.o.mono ?_;rintro e w' ⟨rfl,rfl⟩;go_wp2_with fail;refine HF.o.mono ?_;rintro e w' ⟨rfl,rfl⟩;go_wp2;go_ret;exact⟨rfl,rfl⟩
theorem gE (h:gh w tb P T):Calls prog 87 #[some tb] w fun e w'=>e= .returned (.int .i64 (tE P).length)∧w=w':=by
 have HF:=aH (dU h);obtain⟨vp,vt,vup,vnode,vslot,vm,gt,gn,gs,gm,h1, -, -, -,⟨cap,cur,rfl, -⟩⟩:=h;have c8:=h1.cell (i:=8) rfl;rw[List.length_map] at c8;clear h1;go_enter func87,ntmps87;go_wp2_with fail;refine HF.o.mono ?_;rintro e w' ⟨rfl,rfl⟩;go_wp2;go_ret;exact⟨rfl,rfl⟩
theorem nI (h:oW w tb P T) (hs:du P T):Calls prog 87 #[some tb] w fun e w'=>e= .returned (.int .i64 (tE P).length)∧gh w' tb P T∧ae [tb] w w':=by
 have HF:=aH (mz h hs);clear h hs;go_enter func87,ntmps87;go_wp2_with fail;refine HF.o.mono ?_;rintro e w' ⟨rfl,hT,hFr⟩;have HQ:=aH (And.intro hT hFr);obtain⟨vp,vt,vup,vnode,vslot,vm,gt,gn,gs,gm,h1, -, -, -,⟨cap,cur,rfl, -⟩⟩:=hT;have c8:=h1.cell (i:=8) rfl;rw[List.length_map] at c8;clear h1 hFr;go_wp2;go_ret;exact⟨rfl,HQ.o⟩
theorem rc (h:gh w tb P T) {v:Nat} (hv:v<(tE P).length):Calls prog 88 #[some tb,v] w fun e w'=>e= .returned (T.count ((tE P)[v]?.getD 0):Nat)∧w=w':=by
 have HN:=aH (gE h);have HF:=aH (dU h);obtain⟨vp,vt,vup,vnode,vslot,vm,gt,gn,gs,gm,h1, -, -, -,h3⟩:=h;have ci:=jN h3 (k:=v) (by simpa using hv);have ei:((tE P).map fun x=>(T.count x:Int))[v]?.getD 0=((T.count ((tE P)[v]?.getD 0):Nat):Int):=by simp[hv]
 rw[ei] at ci;obtain⟨cap,cur,rfl, -⟩:=h3;have c8:=h1.cell (i:=8) rfl;rw[List.length_map] at c8;have l1:(v:Int)<(tE P).length:=by omega
 have d1:decide ((v:Int)<0)=false:=by simp
 have d2:decide (((tE P).length:Int)≤(v:Int))=false:=by simp;omega
 have d3:decide ((tE P).length≤v)=false:=by simp;omega
 generalize((T.count ((tE P)[v]?.getD 0):Nat):Int)=y at*;clear h1 ei hv;go_enter func88,ntmps88;go_wp2_with fail;refine HN.o.mono ?_;rintro e w' ⟨rfl,rfl⟩;go_wp2_with fail;refine HF.o.mono ?_;rintro e w' ⟨rfl,rfl⟩;go_wp2;go_ret;exact⟨rfl,rfl⟩
end
theorem eH {w:World} {b1 b2:Nat} {v u:Value} {P T:List Int} (hx:a7 w b1 v P) (hy:a7 w b2 u T) (hs:du P T):
 Calls prog 39 #[.agg #[v,u]] w fun e w'=>∃tb,e= .returned (.tuple #[some tb,(0:Int)])∧w.heap.size≤tb∧oW w' tb P T∧ae [] w w':=by
 obtain⟨s1,s2,s3,s4⟩:=hs.size;have HC:=aH (fun(W:World) (hf:ae [] w W)=>iZ W (hx.frm hf aS) (hy.frm hf aS) hs);have HX:=aH (fun(W:World) (hf:ae [] w W)=>lL (hx.frm hf aS) s1 aO);have HY:=aH (fun(W:World) (hf:ae [] w W)=>lL (hy.frm hf aS) s3 aO);have hB:=am.new w #[v,u] 24;have HB:=aH hB;have HF0:=aH ((ae.refl [] w).alloc (.cells #[v,u] 24));obtain⟨a,cap,rfl,h1, -⟩:=hx;obtain⟨a',cap',rfl,h2, -⟩:=hy;clear hB hs;go_enter func39,ntmps39;go_wp2_with fail;refine(HC.o _ HF0.o).mono ?_;rintro e w1 ⟨rfl,hF⟩;have HF1:=aH (HF0.o.trans hF);have HB1:=aH (HB.o.frm hF aS);clear hF;have hne:=aW [] w1;have hz0:∀q:HW (fun wx=>ae [] w1 wx),q.w.cell? (w.heap.size,0)=some (.slice a P.length cap):=fun q=>(HB1.o.frm q.h aS).cell (i:=0) rfl;have hz1:∀q:HW (fun wx=>ae [] w1 wx),q.w.cell? (w.heap.size,1)=some (.slice a' T.length cap'):=fun q=>(HB1.o.frm q.h aS).cell (i:=1) rfl;go_wp2_with fail;refine aG (fun wx=>ae [] w1 wx) ?_;refine aR (fuel:=7) [0,1,3,4] rfl aF.drew1 ?_;intro K hK;repeat (go_big_quiet_step (fail))
 refine wpQuiet_nil (hK _ ?_);clear hK K;refine aL 2 (fuel:=6) rfl ?_;go_wp2_with fail;refine(HX.o _ (HF1.o.drew1)).mono ?_;rintro e w2 ⟨p,rfl,hO,hF⟩;have hsz2:=hF.size;have hPne:P≠[]:=by intro h;rw[h] at s1;simp at s1
 obtain⟨gp,hgp,hp, -⟩:=IR.of_rows hPne hO;have HP:=aH hp;have HF2:=aH (((ae.refl [] w1).drew1).trans hF);clear hO hF;go_wp2_with fail;refine af ⟨HF2.o,?_⟩;refine aL 5 (fuel:=5) rfl ?_;go_wp2_with fail;refine(HY.o _ (HF1.o.trans HF2.o)).mono ?_;rintro e w3 ⟨t,rfl,hO,hF⟩;have hTne:T≠[]:=by intro h;rw[h] at s3;simp at s3
 obtain⟨gt,hgt,ht, -⟩:=IR.of_rows hTne hO;have HT:=aH ht;have HP3:=aH (HP.o.frm hF aS);have HF3:=aH (HF2.o.trans hF);have hsz:=(HF1.o.trans HF3.o).size;obtain⟨capp,curp,evp, -⟩:=id hp;obtain⟨capt,curt,evt, -⟩:=id ht;subst evp evt;clear hO hF hp ht hz0 hz1;go_wp2_with fail;refine af ⟨HF3.o,?_⟩;refine aR (fuel:=3) [6,7] rfl HF3.o ?_;intro K hK;repeat (go_big_quiet_step (fail))
 refine wpQuiet_nil (hK _ ?_);clear hK K;refine aL 8 (fuel:=2) rfl ?_;go_wp2_with fail;refine af ⟨HF3.o.alloc _,?_⟩;refine aR (fuel:=0) [9,10] rfl (HF3.o.alloc _) ?_;intro K hK;repeat (go_big_quiet_step (fail))
 refine wpQuiet_nil (hK _ ?_);clear hK K;refine aN ?_;go_wp2;go_ret2;have hn:=am.new w3 #[.slice (some ⟨gp,0,none⟩) P.length capp,.slice (some ⟨gt,0,none⟩) T.length capt,.int .u32 0,.int .i32 0,.int .u32 0,.slice none 0 0,.slice none 0 0,.slice none 0 0,.slice none 0 0] 136;have hx:ae [] w3 (w3.alloc (.cells #[.slice (some ⟨gp,0,none⟩) P.length capp,.slice (some ⟨gt,0,none⟩) T.length capt,.int .u32 0,.int .i32 0,.int .u32 0,.slice none 0 0,.slice none 0 0,.slice none 0 0,.slice none 0 0] 136)):=aF.alloc _;exact⟨w3.heap.size,rfl,hsz,⟨_,_,gp,gt,hn,HP3.o.frm hx aS,HT.o.frm hx aS⟩,(HF1.o.trans HF3.o).trans hx⟩
def cJ (P:List Int) (q:Int) (k:Nat):List Int:=((List.range k).filter fun i=>P[i]?.getD 0==q).map fun i:Nat=>(i:Int)
theorem sf (P:List Int) (q:Int) (k:Nat):cJ P q (k+1)=if(P[k]?.getD 0==q)=true then cJ P q k++[(k:Int)] else cJ P q k:=by
 unfold cJ;rw[List.range_succ,List.filter_append,List.map_append];cases h:(P[k]?.getD 0==q)<;>simp[h]
theorem j4 (P:List Int) (q:Int) (k:Nat):(cJ P q k).length≤k:=by unfold cJ;rw[List.length_map];exact Nat.le_trans (List.length_filter_le _ _) aS
section
variable{w:World} {b1:Nat} {v u:Value} {P:List Int}
theorem oh (w:World) (hx:a7 w b1 v P) (hn:P.length≤32) (q:Int):
 Calls prog 89 #[.agg #[v,u],q] w fun e w'=>∃x,e= .returned x∧ju w' w.heap.size x (cJ P q P.length)∧ae [] w w':=by
 obtain⟨i0,hi,hz0,hz1,hz2⟩:=info_parts iY;have HI:=aH (And.intro hi (And.intro hz0 (And.intro hz1 hz2)));have HX:=aH hx;obtain⟨a,cap,rfl, -,hcs⟩:=hx;have HCS:=aH hcs;clear hi hz0 hz1 hz2 hcs;go_enter func89,ntmps89;go_wp2_with fail;have HB:=aH (am.new w #[.slice a P.length cap,u] 24);have HF:=aH ((ae.refl [] w).alloc (.cells #[.slice a P.length cap,u] 24));have hbl:=HB.o.lt;have hsz:=HF.o.size;generalize hW:w.alloc _=w1 at*;clear hW;go_loopw[5,11] (fun vv i wr=>∃(k:Nat) (v:Value),v=vv∧i= .int .i64 k∧k≤P.length∧ju wr w1.heap.size v (cJ P q k)∧ae [] w1 wr) (fun _ i _=>P.length - (intOf i).toNat)
 case atStart=>exact⟨0,_,rfl,rfl,Nat.zero_le _,ju.nil _ _,aF⟩
 case round=>
  obtain⟨k,v,rfl,rfl,hk,hO,hF⟩:=hrel;have hsz2:=hF.size;by_cases hlt:k<P.length
  ·have e0:decide ((k:Int)<P.length)=true:=by simpa using hlt
   have e0':decide (k<P.length)=true:=by simpa using hlt
   have e1:decide ((k:Int)<0)=false:=aB;have e2:decide ((P.length:Int)≤k)=false:=aB;have e2':decide (P.length≤k)=false:=aB;obtain⟨g,off,hg,rfl,hcell⟩:=HCS.o aO;have hc:=hcell k hlt;have hc2:=(HF.o.trans hF).cell hc aS;have HO:=aH hO;have HF2:=aH hF;have HBL:=aH (lA hO);have HNS:=aH (sf P q k);generalize P[k]?.getD 0=pk at*;clear hO hF hc hcell;cases hd:(pk==q) with
   |false=>
    rw[hd] at HNS;go_wp2_with fail;go_roundw
    case rel=>exact⟨k+1,_,rfl,by go_num,by omega,by rw[HNS.o];exact HO.o,HF2.o⟩
    case measure=>simp[intOf];omega
   |true=>
    rw[hd] at HNS;have hlen:=j4 P q k;have HOW:=aH (HO.o.at (n:=(cJ P q k).length) rfl);generalize hll:(cJ P q k).length=ll at*;go_wp2_with(at_builtin;refine wpList_append_own _ rfl _ _ 22 rfl w1.heap.size 3 i0 (.int .i64 0) 1 8 underlying22 HI.o.1 HI.o.2.1 HI.o.2.2.1 HI.o.2.2.2 rfl aJ _ _ _ rfl (HOW.o.alloc _) ⟨wr.heap.size,0,none⟩ 1 1 [k] rfl rfl (cell_one_new _ _ _) ?c2 ?c3 ?c4 ?c5 ?_)
    case c2=>simp[Value.oneCell']
    case c3=>unfold maxLen;omega
    case c4=>omega
    case c5=>have:=HF2.o.size;omega
    intro v' w2 hown' hgrow _;obtain⟨g1,g2⟩:=oG hll hown' hgrow HBL.o HF2.o (Nat.le_refl _);have G1:=aH (show ju w2 w1.heap.size v' (cJ P q (k+1)) by rw[HNS.o];exact g1);have G2:=aH g2;clear g1 g2 hown' hgrow HOW HO HF2 hll;go_wp2;go_roundw
    case rel=>exact⟨k+1,_,rfl,by go_num,by omega,G1.o,G2.o⟩
    case measure=>simp[intOf];omega
  ·have e0:decide ((k:Int)<P.length)=false:=by simpa using hlt
   have e0':decide (k<P.length)=false:=by simpa using hlt
   have HK:=aH (show k=P.length by omega);have HO:=aH hO;have HF2:=aH hF;clear hO hF;go_wp2;go_ret;exact⟨_,rfl,by rw[←HK.o];exact HO.o.base hsz,HF.o.trans HF2.o⟩
end
end Go.Proofs.YteijjhahgabalaaGreat
