/- A cohort lock: what it is made of, what stands while a part of it turns; of, Spot, has. -/
import Derived.Test.YteijjhahgabalaaGreatWA27
import Derived.Test.YteijjhahgabalaaGreatWA28
import Derived.Test.YteijjhahgabalaaGreatWA08
import Derived.Test.YteijjhahgabalaaGreatWA25
import Derived.Test.YteijjhahgabalaaGreatWA29
set_option maxRecDepth 100000
set_option maxHeartbeats 8000000
set_option linter.all false
namespace Go.Proofs.YteijjhahgabalaaGreat
open Go.RowKit
open Tryz
structure CK where
 P:List Int
 T:List Int
 G:FK
 L:Nat→FK
 cn:Nat→Nat
 gk:Int
 lk:Int
 par:Int
 bud:Int
structure CS where
 A:AR
 GS:Nat→Nat→Int
 LS:Nat→Nat→Nat→Int
 TS:Nat→Nat→Int
structure CB where
 cb:Nat
 tb:Nat
 gf:Nat
 gl:Nat
 gs:Nat
 ab:Nat
 wb:Nat
 cs:Nat
 nb:Nat
 ncap:Nat
 fb:Nat→Nat
 lb:Nat→Nat
 sb:Nat→Nat
def CK.E (K:CK):Nat:=(tE K.P).length
def CK.n (K:CK):Nat:=K.T.length
def CK.nd (K:CK) (th:Nat):Nat:=jl K.P (K.T[th]?.getD 0)
def CK.sl (K:CK) (th:Nat):Nat:=(K.T.take th).count (K.T[th]?.getD 0)
def C1 (f:Nat→Nat→Nat→Int) (v:Nat) (x:Nat→Nat→Int):Nat→Nat→Nat→Int:=fun u=>if u=v then x else f u
structure AA (w:World) (B:CB) (K:CK) (S:CS):Prop where
 box:am w B.cb [some B.ab,some B.tb,K.gk,K.lk,K.par,K.bud,some B.gf,.slice (some ⟨B.nb,0,none⟩) K.E B.ncap,.slice (some ⟨B.cs,0,none⟩) K.n K.n] 201
 tab:gh w B.tb K.P K.T
 glo:bQ w B.gf B.gl B.gs B.ab B.wb S.A S.GS K.G
 nod:∃cells,am w B.nb cells 203∧∀v,v<K.E→cells[v*2]? =some (.pointer (some ⟨B.fb v,0,none⟩))∧cells[v*2+1]? =some (.int .i64 (K.cn v))
 loc:∀v,v<K.E→bQ w (B.fb v) (B.lb v) (B.sb v) B.ab B.wb S.A (S.LS v) (K.L v)
 row:am w B.cs (cq K.n S.TS) 138
 dif:B.cs≠B.gs∧(∀v,v<K.E→B.sb v≠B.cs∧B.sb v≠B.gs)∧∀u v,u<K.E→v<K.E→B.sb u=B.sb v→u=v
 ok:du K.P K.T
def CZ (B:CB) (K:CK):List Nat:=B.cs::B.gs::B.ab::B.wb::(List.range K.E).map B.sb
section
variable{w w':World} {B:CB} {K:CK} {S:CS}
theorem AA.ar (h:AA w B K S):aj w B.ab B.wb S.A:=h.glo.ar
theorem A9 {z:Nat}:z∈CZ B K↔z=B.cs∨z=B.gs∨z=B.ab∨z=B.wb∨∃v,v<K.E∧B.sb v=z:=by unfold CZ;simp
theorem AA.mut (h:AA w B K S):pj w (CZ B K):=by
 intro z hz;rcases A9.1 hz with e|e|e|e|⟨v,hv,e⟩
 ·subst e;exact⟨_,_,h.row,.inl rfl⟩
 ·subst e;obtain⟨vs,hr⟩:=h.glo.srow;exact⟨_,_,hr,.inl rfl⟩
 ·subst e;exact⟨_,_,h.ar.box,.inr (.inl rfl)⟩
 ·subst e;exact⟨_,_,h.ar.row,.inr (.inr rfl)⟩
 ·subst e;obtain⟨vs,hr⟩:=(h.loc v hv).srow;exact⟨_,_,hr,.inl rfl⟩
theorem pj.sub {w:World} {Z Z':List Nat} (h:pj w Z) (hs:∀z∈Z',z∈Z):pj w Z':=fun z hz=>h z (hs z hz)
theorem bQ.fnot {fb lb sb ab wb:Nat} {A:AR} {F:Nat→Nat→Int} {M:FK} (h:bQ w fb lb sb ab wb A F M) {Z:List Nat} (hz:pj w Z):fb∉Z∧lb∉Z:=by
 obtain⟨_,h1⟩:=h.fbox;obtain⟨_,T,h2,t1,t2,t3,_⟩:=h.lbox;exact⟨hz.not h1,hz.not h2 t1 t2 t3⟩
theorem AA.re (h:AA w B K S) {Z:List Nat} (hf:ae Z w w') (hz:∀z∈Z,z∈CZ B K) {A':AR} {G':Nat→Nat→Int} {L':Nat→Nat→Nat→Int} {T':Nat→Nat→Int}
 (hG:bQ w' B.gf B.gl B.gs B.ab B.wb A' G' K.G) (hL:∀v,v<K.E→bQ w' (B.fb v) (B.lb v) (B.sb v) B.ab B.wb A' (L' v) (K.L v)) (hT:am w' B.cs (cq K.n T') 138):AA w' B K ⟨A',G',L',T'⟩:=by
 have hm:=h.mut.sub hz;obtain⟨cells,hn,hc⟩:=h.nod;exact{box:=h.box.frm hf (hm.not h.box),tab:=h.tab.stay hf hm,glo:=hG,nod:=⟨cells,hn.frm hf (hm.not hn),hc⟩,loc:=hL,row:=hT,dif:=h.dif,ok:=h.ok}
theorem AA.same (h:AA w B K S) (hf:ae [] w w'):AA w' B K S:=
 h.re hf aS (h.glo.frm hf aS) (fun v hv=>(h.loc v hv).frm hf aS) (h.row.frm hf aS)
theorem AA.arena (h:AA w B K S) {A':AR} (hf:ae [B.ab,B.wb] w w') (hA:aj w' B.ab B.wb A'):AA w' B K {S with A:=A'}:=by
 have hm:pj w [B.ab,B.wb]:=h.mut.sub (fun z hz=>A9.2 (by simp at hz;omega));refine h.re hf (fun z hz=>A9.2 (by simp at hz;omega)) ?_ (fun v hv=>?_) ?_
 ·have:=h.glo.apart;exact h.glo.re hf (h.glo.fnot hm).1 (h.glo.fnot hm).2 aQ hA
 ·have:=(h.loc v hv).apart;exact(h.loc v hv).re hf ((h.loc v hv).fnot hm).1 ((h.loc v hv).fnot hm).2 aQ hA
 ·exact h.row.frm hf (by have:=h.row.differ h.ar.box aJ;have:=h.row.differ h.ar.row aJ;simp;omega)
theorem AA.glob (h:AA w B K S) {A':AR} {G':Nat→Nat→Int} (hf:ae [B.gs,B.ab,B.wb] w w') (hG:bQ w' B.gf B.gl B.gs B.ab B.wb A' G' K.G):AA w' B K {S with A:=A',GS:=G'}:=by
 have hm:pj w [B.gs,B.ab,B.wb]:=h.mut.sub (fun z hz=>A9.2 (by simp at hz;omega));obtain⟨d1,d2,d3⟩:=h.dif;refine h.re hf (fun z hz=>A9.2 (by simp at hz;omega)) hG (fun v hv=>?_) ?_
 ·have:=(h.loc v hv).apart;have:=d2 v hv;exact(h.loc v hv).re hf ((h.loc v hv).fnot hm).1 ((h.loc v hv).fnot hm).2 aQ hG.ar
 ·exact h.row.frm hf (by have:=h.row.differ h.ar.box aJ;have:=h.row.differ h.ar.row aJ;simp;omega)
theorem AA.local (h:AA w B K S) {A':AR} {L':Nat→Nat→Int} {v:Nat} (hv:v<K.E) (hf:ae [B.sb v,B.ab,B.wb] w w') (hL:bQ w' (B.fb v) (B.lb v) (B.sb v) B.ab B.wb A' L' (K.L v)):AA w' B K {S with A:=A',LS:=C1 S.LS v L'}:=by
 have hm:pj w [B.sb v,B.ab,B.wb]:=h.mut.sub (fun z hz=>A9.2 (by
  simp at hz;rcases hz with e|e|e
  ·exact .inr (.inr (.inr (.inr ⟨v,hv,e.symm⟩)))
  ·omega
  ·omega))
 obtain⟨d1,d2,d3⟩:=h.dif;have dv:=d2 v hv;refine h.re hf (fun z hz=>A9.2 (by
  simp at hz;rcases hz with e|e|e
  ·exact .inr (.inr (.inr (.inr ⟨v,hv,e.symm⟩)))
  ·omega
  ·omega)) ?_ (fun u hu=>?_) ?_
 ·have:=h.glo.apart;exact h.glo.re hf (h.glo.fnot hm).1 (h.glo.fnot hm).2 aQ hL.ar
 ·unfold C1;by_cases e:u=v
  ·subst e;rw[if_pos rfl];exact hL
  ·rw[if_neg e];have:=(h.loc u hu).apart;have hne:B.sb u≠B.sb v:=fun x=>e (d3 u v hu hv x);exact(h.loc u hu).re hf ((h.loc u hu).fnot hm).1 ((h.loc u hu).fnot hm).2 aQ hL.ar
 ·exact h.row.frm hf (by have:=h.row.differ h.ar.box aJ;have:=h.row.differ h.ar.row aJ;simp;omega)
theorem AA.put (h:AA w B K S) (th:Nat) {t:Nat} (ht:t<4) (x:Int):AA (w.setCell (B.cs,th*4+t) (.int .i64 x)) B K {S with TS:=ac S.TS th t x}:=by
 have hf:ae [B.cs] w (w.setCell (B.cs,th*4+t) (.int .i64 x)):=aU;have hm:pj w [B.cs]:=h.mut.sub (fun z hz=>A9.2 (by simp at hz;omega));obtain⟨d1,d2,d3⟩:=h.dif;have n1:=h.row.differ h.ar.box aJ;have n2:=h.row.differ h.ar.row aJ;have hr:=h.row.set (th*4+t) (.int .i64 x);rw[dP K.n S.TS ht x] at hr;refine h.re hf (fun z hz=>A9.2 (by simp at hz;omega)) ?_ (fun v hv=>?_) hr
 ·exact h.glo.re hf (h.glo.fnot hm).1 (h.glo.fnot hm).2 aQ (h.ar.frm hf aQ aQ)
 ·have:=d2 v hv;exact(h.loc v hv).re hf ((h.loc v hv).fnot hm).1 ((h.loc v hv).fnot hm).2 aQ (h.ar.frm hf aQ aQ)
theorem AA.p (h:AA w B K S) {th:Nat} (hj:th<K.n) {t:Nat} (ht:t<4):w.cell? (B.cs,th*4+t)=some (.int .i64 (S.TS th t)):=h.row.cell (ag K.n S.TS hj ht)
theorem AA.p0 (h:AA w B K S) {th:Nat} (hj:th<K.n):w.cell? (B.cs,th*4)=some (.int .i64 (S.TS th 0)):=h.row.cell (ag K.n S.TS (t:=0) hj aO)
theorem AA.n32 (h:AA w B K S):K.n≤32∧1≤K.n:=⟨h.ok.size.2.2.2,h.ok.size.2.2.1⟩
theorem AA.nd_lt (h:AA w B K S) {th:Nat} (hj:th<K.n):K.nd th<K.E:=by
 unfold CK.nd CK.E jl;refine List.idxOf_lt_length_iff.2 (j8 h.ok ?_);rw[List.getElem?_eq_getElem hj];exact List.getElem_mem hj
theorem dF (h:AA w B K S):Calls prog 224 #[some B.cb] w fun e w'=>e= .returned K.n∧w=w':=by
 have c8:=h.box.cell (i:=8) rfl;clear h;go_enter func224,ntmps224;go_wp2;go_ret;exact⟨rfl,rfl⟩
theorem pu (h:AA w B K S) (i:Int):Calls prog 225 #[some B.cb,i] w fun e w'=>e= .returned (.bool (aZ K.n i))∧w=w':=by
 have HT:=aH (dF h);clear h;by_cases h1:0≤i
 ·have d1:decide (0≤i)=true:=by simpa using h1
  have e:aZ K.n i=decide (i<(K.n:Int)):=by unfold aZ;simp[h1]
  rw[e];cases hd:decide (i<(K.n:Int))
  all_goals
   go_enter func225,ntmps225;go_wp2_with fail;refine HT.o.mono ?_;rintro e w' ⟨rfl,rfl⟩;go_wp2;go_ret;exact⟨rfl,rfl⟩
 ·have d1:decide (0≤i)=false:=by simpa using h1
  have e:aZ K.n i=false:=by unfold aZ;simp;omega
  rw[e];go_enter func225,ntmps225;go_wp2;go_ret;exact⟨rfl,rfl⟩
theorem Fw (h:AA w B K S) (i:Int):Calls prog 222 #[some B.cb,i] w fun e w'=>e= .returned (dq K.n S.TS i)∧ae [] w w':=by
 have hF:ae [] w (w.alloc (.cells #[(0:Int),(0:Int),(0:Int),(0:Int)] 138)):=aF.alloc _;have HS:=aH (pu (h.same hF) i);have hnot:= @aX prog;cases hi:aZ K.n i with
 |false=>
  have hr:dq K.n S.TS i= .agg #[(0:Int),(0:Int),(0:Int),(0:Int)]:=by unfold dq;rw[hi];rfl
  rw[hr];rw[hi] at HS;clear h hr hi hF;go_enter func222,ntmps222;go_wp2_with fail;refine HS.o.mono ?_;rintro e w' ⟨rfl,rfl⟩;go_wp2_with fail;exact bodyPost_ret (v:=.agg #[(0:Int),(0:Int),(0:Int),(0:Int)]) (by simp[results,results222,go_sem]) rfl ⟨rfl,aF.alloc _⟩
 |true=>
  have hi':0≤i∧i<(K.n:Int):=by unfold aZ at hi;simpa using hi
  obtain⟨j,rfl⟩:=Int.eq_ofNat_of_zero_le hi'.1;have hj:j<K.n:=by omega
  have hr:dq K.n S.TS j= .agg #[(S.TS j 0:Int),(S.TS j 1:Int),(S.TS j 2:Int),(S.TS j 3:Int)]:=by unfold dq;rw[hi];rfl
  rw[hr];rw[hi] at HS;have h2:=h.same hF;have c8:=h2.box.cell (i:=8) rfl;have j0:=h2.p0 hj;have j1:=h2.p hj (t:=1) aO;have j2:=h2.p hj (t:=2) aO;have j3:=h2.p hj (t:=3) aO;have l1:(j:Int)<K.n:=by omega
  have hn32:=h.n32.1;clear h hr hi hi' hF h2;go_enter func222,ntmps222;go_wp2_with fail;refine HS.o.mono ?_;rintro e w' ⟨rfl,rfl⟩;go_wp2_with fail;refine bodyPost_ret (v:=.agg #[(S.TS j 0:Int),(S.TS j 1:Int),(S.TS j 2:Int),(S.TS j 3:Int)]) (by simp[results,results222,go_sem]) rfl ⟨rfl,?_⟩;exact aF.alloc _
end
section
variable{w w':World} {B:CB} {K:CK} {S:CS}
theorem rX (h:AA w B K S) {th:Nat} (hj:th<K.n):Calls prog 226 #[some B.cb,th] w fun e w'=>e= .returned (.tuple #[.agg #[some (B.fb (K.nd th)),(K.cn (K.nd th):Int)],(K.nd th:Int),(K.sl th:Int)])∧ae [] w w':=by
 have hv:=h.nd_lt hj;have hF:ae [] w (w.alloc (.cells #[.pointer none,(0:Int)] 203)):=aF.alloc _;have hB:=am.new w #[.pointer none,(0:Int)] 203;have h2:=h.same hF;have HN:=aH (fC h2.tab hj);have HSL:=aH (fun(W:World) (hf:ae [] (w.alloc (.cells #[.pointer none,(0:Int)] 203)) W)=>uG (h2.same hf).tab hj);have HBX:=aH hB;have hnbl:B.nb<w.heap.size:=by
  obtain⟨cells,hn,_⟩:=h.nod;exact hn.lt
 have HW2:=aH h2;have HFF:=aH hF;have c1:=h2.box.cell (i:=1) rfl;obtain⟨v,hvv⟩:∃v,v=K.nd th:=⟨_,rfl⟩
 obtain⟨sl,hsl⟩:∃s,s=K.sl th:=⟨_,rfl⟩
 have eN:(jl K.P (K.T[th]?.getD 0))=v:=by rw[hvv];rfl
 have eS:((K.T.take th).count (K.T[th]?.getD 0))=sl:=by rw[hsl];rfl
 rw[eN] at HN;rw[eS] at HSL;rw[←hvv,←hsl];rw[←hvv] at hv;clear h eN eS hvv hsl hB hF h2;go_enter func226,ntmps226;go_wp2_with fail;refine HN.o.mono ?_;rintro e w' ⟨rfl,rfl⟩;clear c1 HN;obtain⟨bn,hbn⟩:∃bn,bn=w.heap.size:=⟨_,rfl⟩
 rw[←hbn] at HBX⊢;have hbw:w.heap.size≤bn:=by omega
 clear hbn;generalize w.alloc (.cells #[.pointer none,(0:Int)] 203)=W at*;have hcl:∀wx,ae [bn] W wx→wx.cell? (B.cb,1)=some (.pointer (some ⟨B.tb,0,none⟩))∧wx.cell? (B.cb,7)=some (.slice (some ⟨B.nb,0,none⟩) K.E B.ncap)∧wx.cell? (B.nb,v*2)=some (.pointer (some ⟨B.fb v,0,none⟩))∧wx.cell? (B.nb,v*2+1)=some (.int .i64 (K.cn v)):=by
  intro wx hf;obtain⟨cells,hn,hc⟩:=HW2.o.nod;have n1:=HBX.o.differ HW2.o.box aJ;have n2:bn≠B.nb:=by omega
  have hb:=HW2.o.box.frm hf aQ;have hn':=hn.frm hf aQ;exact⟨hb.cell (i:=1) rfl,hb.cell (i:=7) rfl,hn'.cell (hc v hv).1,hn'.cell (hc v hv).2⟩
 have HCL:=aH hcl;clear hcl;have hne:=aW [bn] W;have hz0:∀q:HW (fun wx=>ae [bn] W wx),q.w.cell? (B.cb,1)=some (.pointer (some ⟨B.tb,0,none⟩)):=fun q=>(HCL.o q.w q.h).1;have hz1:∀q:HW (fun wx=>ae [bn] W wx),q.w.cell? (B.cb,7)=some (.slice (some ⟨B.nb,0,none⟩) K.E B.ncap):=fun q=>(HCL.o q.w q.h).2.1;have hz2:∀q:HW (fun wx=>ae [bn] W wx),q.w.cell? (B.nb,v*2)=some (.pointer (some ⟨B.fb v,0,none⟩)):=fun q=>(HCL.o q.w q.h).2.2.1;have hz3:∀q:HW (fun wx=>ae [bn] W wx),q.w.cell? (B.nb,v*2+1)=some (.int .i64 (K.cn v)):=fun q=>(HCL.o q.w q.h).2.2.2;have l1:(v:Int)<K.E:=by omega
 go_wp2_with fail;refine aG (fun wx=>ae [bn] W wx) ?_;refine aR (fuel:=4) [0,1,2,3,4,5,6,7,8,9,10,11,12] rfl aF.drew1 ?_;intro K hK;repeat (go_big_quiet_step (fail))
 refine wpQuiet_nil (hK _ ?_);clear hK K;refine aL 13 (fuel:=3) rfl ?_;go_wp2_with fail;refine(HSL.o _ ((ae.refl [] W).drew1)).mono ?_;rintro e w' ⟨rfl,rfl⟩;go_wp2_with fail;refine af ⟨aF.drew1,?_⟩;have b0:=HBX.o.cell (i:=0) rfl;have b1:=HBX.o.cell (i:=1) rfl;have bz:=HBX.o.frozen;refine aL 14 (fuel:=2) rfl ?_;go_wp2_with fail;have hst:ae [bn] W ((W.setCell (bn,0) (.pointer (some ⟨B.fb v,0,none⟩))).setCell (bn,1) (.int .i64 (K.cn v))).drew:=(aU.set _ _ (.inl aS)).drew1;have hbs:=((HBX.o.set 0 (.pointer (some ⟨B.fb v,0,none⟩))).set 1 (.int .i64 (K.cn v))).drew1;have HST:=aH hst;have HBS:=aH hbs;clear hst hbs;refine af ⟨HST.o,?_⟩;generalize((W.setCell (bn,0) (.pointer (some ⟨B.fb v,0,none⟩))).setCell (bn,1) (.int .i64 (K.cn v))).drew=W2 at*;refine aR (fuel:=0) [15,16] rfl HST.o ?_;intro K hK;repeat (go_big_quiet_step (fail))
 refine wpQuiet_nil (hK _ ?_);clear hK K;refine aN ?_;have k0:=HBS.o.cell (i:=0) rfl;have k1:=HBS.o.cell (i:=1) rfl;go_wp2_with fail;refine bodyPost_ret (v:=.tuple #[.agg #[some (B.fb v),(K.cn v:Int)],v,sl]) (by simp[results,results226,go_sem,k0,k1]) rfl ⟨rfl,?_⟩;exact HFF.o.widen HST.o (fun z hz=>.inr (by simp at hz;omega))
end
section
variable{w w':World} {B:CB} {K:CK} {S:CS}
theorem v6 {w:World} {B:CB} {K:CK} {S:CS} {A':AR} {v:Nat} (h:AA w B K {S with A:=A',LS:=C1 S.LS v (S.LS v)}):AA w B K {S with A:=A'}:=by
 have e:C1 S.LS v (S.LS v)=S.LS:=by
  funext u
  unfold C1
  split
  ·rename_i e;rw[e]
  ·rfl
 rw[e] at h;exact h
theorem pr (n a b:Int) (w:World):Calls prog 102 #[n,a,b] w fun e w'=>e= .returned (.bool (decide (a≤n)&&decide (n≤b)))∧w=w':=by
 by_cases h1:a≤n
 ·have d1:decide (a≤n)=true:=by simpa using h1
  rw[d1,Bool.true_and];cases d2:decide (n≤b)
  all_goals
   go_enter func102,ntmps102;go_wp2;go_ret;exact⟨rfl,rfl⟩
 ·have d1:decide (a≤n)=false:=by simpa using h1
  rw[d1,Bool.false_and];go_enter func102,ntmps102;go_wp2;go_ret;exact⟨rfl,rfl⟩
theorem Ce (b:Int) (w:World):Calls prog 85 #[b] w fun e w'=>e= .returned (.bool (decide (0≤b)&&decide (b≤1000)))∧w=w':=by
 have HI:=aH (pr b 0 1000 w);generalize(decide ((0:Int)≤b)&&decide (b≤1000))=r at*;go_enter func85,ntmps85;go_wp2_with fail;refine HI.o.mono ?_;rintro e w' ⟨rfl,rfl⟩;go_wp2;go_ret;exact⟨rfl,rfl⟩
def passes (c b:Int) (al:Bool):Bool:=(decide (0≤b)&&decide (b≤1000))&&(decide (1≤c)&&decide (c≤b))&& !al
theorem cG (c b:Int) (al:Bool) (w:World):Calls prog 229 #[c,b,al] w fun e w'=>e= .returned (.bool (passes c b al))∧w=w':=by
 have HR:=aH (Ce b w);have HI:=aH (pr c 1 b w);unfold passes;have hnot:= @aX prog;generalize(decide ((0:Int)≤b)&&decide (b≤1000))=r at*;generalize(decide ((1:Int)≤c)&&decide (c≤b))=q at*;cases r
 ·go_enter func229,ntmps229;go_wp2_with fail;refine HR.o.mono ?_;rintro e w' ⟨rfl,rfl⟩;go_wp2;go_ret;exact⟨rfl,rfl⟩
 ·cases q
  all_goals
   go_enter func229,ntmps229;go_wp2_with fail;refine HR.o.mono ?_;rintro e w' ⟨rfl,rfl⟩;go_wp2_with fail;refine HI.o.mono ?_;rintro e w' ⟨rfl,rfl⟩;go_wp2;go_ret;exact⟨rfl,rfl⟩
theorem Ah:(∀{w:World} {B:CB} {K:CK} {S:CS} (h:AA w B K S) {th:Nat} (hj:th<K.n) (h0:S.TS th 0=11) (hx:K.bud<S.A.get ((K.cn (K.nd th):Nat):Int)),Calls prog 228 #[some B.cb,th] w fun e w'=>e= .returned (14:Int)∧AA w' B K ({S with A:=S.A.load ((K.cn (K.nd th):Nat):Int),TS:=ac S.TS th 1 (S.A.get ((K.cn (K.nd th):Nat):Int))})∧ae (CZ B K) w w')∧(∀{w:World} {B:CB} {K:CK} {S:CS} (h:AA w B K S) {th:Nat} (hj:th<K.n) (h0:S.TS th 0=11) (hx:¬K.bud<S.A.get ((K.cn (K.nd th):Nat):Int)),Calls prog 228 #[some B.cb,th] w fun e w'=>e= .returned (12:Int)∧AA w' B K ({S with A:=S.A.load ((K.cn (K.nd th):Nat):Int),TS:=ac S.TS th 1 (S.A.get ((K.cn (K.nd th):Nat):Int))})∧ae (CZ B K) w w')∧(∀{w:World} {B:CB} {K:CK} {S:CS} (h:AA w B K S) {th:Nat} (hj:th<K.n) (h0:S.TS th 0=12) (hR:passes (S.TS th 1) K.bud (o5 (K.L (K.nd th)) (S.LS (K.nd th)) S.A ((K.sl th:Nat):Int))=true),Calls prog 228 #[some B.cb,th] w fun e w'=>e= .returned (13:Int)∧AA w' B K ({S with A:=pb (K.L (K.nd th)) (S.LS (K.nd th)) S.A ((K.sl th:Nat):Int)})∧ae (CZ B K) w w')∧(∀{w:World} {B:CB} {K:CK} {S:CS} (h:AA w B K S) {th:Nat} (hj:th<K.n) (h0:S.TS th 0=12) (hR:passes (S.TS th 1) K.bud (o5 (K.L (K.nd th)) (S.LS (K.nd th)) S.A ((K.sl th:Nat):Int))=false),Calls prog 228 #[some B.cb,th] w fun e w'=>e= .returned (14:Int)∧AA w' B K ({S with A:=pb (K.L (K.nd th)) (S.LS (K.nd th)) S.A ((K.sl th:Nat):Int)})∧ae (CZ B K) w w')∧(∀{w:World} {B:CB} {K:CK} {S:CS} (h:AA w B K S) {th:Nat} (hj:th<K.n) (h0:S.TS th 0=15) (hg:K.G.k=4→gq K.G.n S.GS) (hR:ca K.G S.GS S.A ((K.nd th:Nat):Int)=true),Calls prog 228 #[some B.cb,th] w fun e w'=>e= .returned (16:Int)∧AA w' B K ({S with A:=b7 K.G S.GS S.A ((K.nd th:Nat):Int),GS:=bV K.G S.GS S.A ((K.nd th:Nat):Int),LS:=C1 S.LS (K.nd th) (cQ (K.L (K.nd th)) (S.LS (K.nd th)) ((K.sl th:Nat):Int))})∧ae (CZ B K) w w')∧(∀{w:World} {B:CB} {K:CK} {S:CS} (h:AA w B K S) {th:Nat} (hj:th<K.n) (h0:S.TS th 0=15) (hg:K.G.k=4→gq K.G.n S.GS) (hR:ca K.G S.GS S.A ((K.nd th:Nat):Int)=false),Calls prog 228 #[some B.cb,th] w fun e w'=>e= .returned (15:Int)∧AA w' B K ({S with A:=b7 K.G S.GS S.A ((K.nd th:Nat):Int),GS:=bV K.G S.GS S.A ((K.nd th:Nat):Int)})∧ae (CZ B K) w w')∧(∀{w:World} {B:CB} {K:CK} {S:CS} (h:AA w B K S) {th:Nat} (hj:th<K.n) (h0:S.TS th 0=16) (hp:∀v,v<K.E→(K.L v).k=4→gq (K.L v).n (S.LS v)) (hR:ca (K.L (K.nd th)) (S.LS (K.nd th)) S.A ((K.sl th:Nat):Int)=true),Calls prog 228 #[some B.cb,th] w fun e w'=>e= .returned (0:Int)∧AA w' B K ({S with A:=b7 (K.L (K.nd th)) (S.LS (K.nd th)) S.A ((K.sl th:Nat):Int),LS:=C1 S.LS (K.nd th) (bV (K.L (K.nd th)) (S.LS (K.nd th)) S.A ((K.sl th:Nat):Int))})∧ae (CZ B K) w w')∧(∀{w:World} {B:CB} {K:CK} {S:CS} (h:AA w B K S) {th:Nat} (hj:th<K.n) (h0:S.TS th 0=16) (hp:∀v,v<K.E→(K.L v).k=4→gq (K.L v).n (S.LS v)) (hR:ca (K.L (K.nd th)) (S.LS (K.nd th)) S.A ((K.sl th:Nat):Int)=false),Calls prog 228 #[some B.cb,th] w fun e w'=>e= .returned (16:Int)∧AA w' B K ({S with A:=b7 (K.L (K.nd th)) (S.LS (K.nd th)) S.A ((K.sl th:Nat):Int),LS:=C1 S.LS (K.nd th) (bV (K.L (K.nd th)) (S.LS (K.nd th)) S.A ((K.sl th:Nat):Int))})∧ae (CZ B K) w w')∧(∀{w:World} {B:CB} {K:CK} {S:CS} (h:AA w B K S) {th:Nat} (hj:th<K.n) (h0:S.TS th 0=13),Calls prog 228 #[some B.cb,th] w fun e w'=>e= .returned (16:Int)∧AA w' B K ({S with A:=S.A.store ((K.cn (K.nd th):Nat):Int) (wrap64 (S.TS th 1+1)),LS:=C1 S.LS (K.nd th) (cQ (K.L (K.nd th)) (S.LS (K.nd th)) ((K.sl th:Nat):Int))})∧ae (CZ B K) w w')∧(∀{w:World} {B:CB} {K:CK} {S:CS} (h:AA w B K S) {th:Nat} (hj:th<K.n) (h0:S.TS th 0=14),Calls prog 228 #[some B.cb,th] w fun e w'=>e= .returned (15:Int)∧AA w' B K ({S with A:=S.A.store ((K.cn (K.nd th):Nat):Int) 0,GS:=cQ K.G S.GS ((K.nd th:Nat):Int)})∧ae (CZ B K) w w'):=by
 refine⟨?_,?_,?_,?_,?_,?_,?_,?_,?_,?_⟩;iterate 2
  intro w B K S h th hj h0 hx;rotate_left
 iterate 2
  intro w B K S h th hj h0 hR;rotate_left
 iterate 2
  intro w B K S h th hj h0 hg hR;rotate_left
 iterate 2
  intro w B K S h th hj h0 hp hR;rotate_left
 iterate 2
  intro w B K S h th hj h0;rotate_left
 all_goals
  have HJ:=aH hj;have hn32:=h.n32;have HV:=aH (h.nd_lt hj);have HOF:=aH (rX h hj);have c8:=h.box.cell (i:=8) rfl;have l1:(th:Int)<K.n:=by omega
  have H:=aH h;have H0:=aH h0
 obtain⟨x,hxx⟩:∃x,S.A.get ((K.cn (K.nd th):Nat):Int)=x:=⟨_,rfl⟩
 rw[hxx] at hx⊢;have HX:=aH hxx;have dx:decide (K.bud<x)=true:=by simpa using hx
 clear hxx;rotate_left;obtain⟨x,hxx⟩:∃x,S.A.get ((K.cn (K.nd th):Nat):Int)=x:=⟨_,rfl⟩
 rw[hxx] at hx⊢;have HX:=aH hxx;have dx:decide (K.bud<x)=false:=by simpa using hx
 clear hxx;rotate_left;iterate 6
  have HR:=aH hR;clear hR;rotate_left
 rotate_left 2;all_goals
  clear h h0 hj;go_enter func228,ntmps228;go_wp2_with fail;refine HOF.o.mono ?_;rintro e w1 ⟨rfl,hF⟩;have hWX:ae [] w1 (w1.alloc (.cells #[some (B.fb (K.nd th)),(K.cn (K.nd th):Int)] 203)):=aF.alloc _;have hbx:=am.new w1 #[some (B.fb (K.nd th)),(K.cn (K.nd th):Int)] 203;have hC:=H.o.same (hF.trans hWX);have k0:=hC.p0 HJ.o;rw[H0.o] at k0;have k1:=hC.p HJ.o (t:=1) aO;have b0:=hbx.cell (i:=0) rfl;have b1:=hbx.cell (i:=1) rfl;have d6:=hC.box.cell (i:=6) rfl;have HFW:=aH (hF.trans hWX);have HBX:=aH hbx;have HC:=aH hC;have hbw:w.heap.size≤w1.heap.size:=hF.size;clear hWX hbx hC hF;go_wp2_with fail;generalize w1.alloc (.cells #[some (B.fb (K.nd th)),(K.cn (K.nd th):Int)] 203)=W at*
 iterate 2
  focus
   obtain⟨bn,hbn⟩:∃bn,bn=w1.heap.size:=⟨_,rfl⟩
   rw[←hbn] at HBX b0 b1;rw[←hbn];clear hbn;have hne:=aW [B.cs,B.ab,B.wb] W;have hz0:∀q:HW (fun wx=>ae [B.cs,B.ab,B.wb] W wx),q.w.cell? (B.cb,0)=some (.pointer (some ⟨B.ab,0,none⟩)):=fun q=>(HC.o.box.frm q.h (((HC.o.mut.sub (Z':=[B.cs,B.ab,B.wb]) (fun z hz=>A9.2 (by simp at hz;omega))).not HC.o.box))).cell (i:=0) rfl;have hz1:∀q:HW (fun wx=>ae [B.cs,B.ab,B.wb] W wx),q.w.cell? (bn,1)=some (.int .i64 (K.cn (K.nd th))):=fun q=>(HBX.o.frm q.h (((HC.o.mut.sub (Z':=[B.cs,B.ab,B.wb]) (fun z hz=>A9.2 (by simp at hz;omega))).not HBX.o))).cell (i:=1) rfl;refine aG (fun wx=>ae [B.cs,B.ab,B.wb] W wx) ?_;refine aR (fuel:=4) [0,1,2,3,4,5,6] rfl aF.drew1 ?_;intro Kq hK;repeat (go_big_quiet_step (fail))
   refine wpQuiet_nil (hK _ ?_);clear hK Kq;refine aL 7 (fuel:=3) rfl ?_;go_wp2_with fail;refine(bq ((HC.o.same ((ae.refl [] W).drew1)).ar) ((K.cn (K.nd th):Nat):Int)).mono ?_;rw[HX.o];rintro e w2 ⟨rfl,hA,hF⟩;have HF2:=aH (((ae.refl [B.ab,B.wb] W).drew1).trans hF);have HD:=aH (HC.o.arena HF2.o hA);have j1:=HD.o.p HJ.o (t:=1) aO;have jz:=HD.o.row.frozen;clear hA hF;go_wp2_with fail;refine af ⟨HF2.o.mono aS,?_⟩;refine aR (fuel:=1) [8,9] rfl (HF2.o.mono aS) ?_;intro Kq hK;repeat (go_big_quiet_step (fail))
   refine wpQuiet_nil (hK _ ?_);clear hK Kq;refine aL 10 (fuel:=0) rfl ?_;go_wp2_with fail;refine af ⟨(HF2.o.mono (S':=[B.cs,B.ab,B.wb]) aS).set _ _ (.inl aS),?_⟩;refine aN ?_;have HE:=aH (HD.o.put th (t:=1) aO x);have HFE:=aH (((HF2.o.mono (S':=[B.cs,B.ab,B.wb]) aS).set ⟨B.cs,th*4+1,none⟩ (.int .i64 x) (.inl aS)).mono (S':=CZ B K) (fun z hz=>A9.2 (by simp at hz;omega)));clear j1 jz hne hz0 hz1 HD HF2 b0 b1 k0 k1 d6;generalize w2.setCell (B.cs,th*4+1) (.int .i64 x)=W3 at*;have e1:W3.cell? (B.cs,th*4+1)=some (.int .i64 x):=(HE.o.p HJ.o (t:=1) aO).trans (by simp[ac]);have e0:=HE.o.p0 HJ.o;have g5:=HE.o.box.cell (i:=5) rfl;go_wp2_with fail
   go_quiet (fail)
  rotate_left
 iterate 2
  focus
   obtain⟨bn,hbn⟩:∃bn,bn=w1.heap.size:=⟨_,rfl⟩
   rw[←hbn] at HBX b0 b1;rw[←hbn];clear hbn;have hne:=aW [B.sb (K.nd th),B.ab,B.wb] W;have hz0:∀q:HW (fun wx=>ae [B.sb (K.nd th),B.ab,B.wb] W wx),q.w.cell? (B.cb,5)=some (.int .i64 K.bud):=fun q=>(HC.o.box.frm q.h (((HC.o.mut.sub (Z':=[B.sb (K.nd th),B.ab,B.wb]) (fun z hz=>A9.2 (by
    simp at hz;rcases hz with e|e|e
    ·exact .inr (.inr (.inr (.inr ⟨_,HV.o,e.symm⟩)))
    ·omega
    ·omega))).not HC.o.box))).cell (i:=5) rfl
   have hz1:∀q:HW (fun wx=>ae [B.sb (K.nd th),B.ab,B.wb] W wx),q.w.cell? (bn,0)=some (.pointer (some ⟨B.fb (K.nd th),0,none⟩)):=fun q=>(HBX.o.frm q.h (((HC.o.mut.sub (Z':=[B.sb (K.nd th),B.ab,B.wb]) (fun z hz=>A9.2 (by
    simp at hz;rcases hz with e|e|e
    ·exact .inr (.inr (.inr (.inr ⟨_,HV.o,e.symm⟩)))
    ·omega
    ·omega))).not HBX.o))).cell (i:=0) rfl
   have hz2:∀q:HW (fun wx=>ae [B.sb (K.nd th),B.ab,B.wb] W wx),q.w.cell? (B.cs,th*4+1)=some (.int .i64 (S.TS th 1)):=fun q=>(HC.o.row.frm q.h (by have:=HC.o.row.differ HC.o.ar.box aJ;have:=HC.o.row.differ HC.o.ar.row aJ;have:=HC.o.dif.2.1 _ HV.o;simp;omega)).cell (ag K.n S.TS HJ.o aO);refine aG (fun wx=>ae [B.sb (K.nd th),B.ab,B.wb] W wx) ?_;refine aR (fuel:=2) [0,1,2,3,4,5,6,7,8,9,10,11] rfl aF.drew1 ?_;intro Kq hK;repeat (go_big_quiet_step (fail))
   refine wpQuiet_nil (hK _ ?_);clear hK Kq;refine aL 12 (fuel:=1) rfl ?_;go_wp2_with fail;refine(ue ((HC.o.same ((ae.refl [] W).drew1)).loc _ HV.o) ((K.sl th:Nat):Int)).mono ?_;rintro e w2 ⟨rfl,hK,hF⟩;have HF2:=aH (((ae.refl [B.sb (K.nd th),B.ab,B.wb] W).drew1).trans hF);have HD:=aH (HC.o.local HV.o HF2.o hK);clear hK hF;go_wp2_with fail;refine af ⟨HF2.o,?_⟩;refine aL 13 (fuel:=0) rfl ?_;go_wp2_with fail;refine(cG _ _ _ _).mono ?_;rw[HR.o];rintro e w' ⟨rfl,rfl⟩;go_wp2_with fail;refine af ⟨HF2.o,?_⟩;refine aN ?_;have HFD:=aH (HF2.o.mono (S':=CZ B K) (fun z hz=>A9.2 (by
    simp at hz;rcases hz with e|e|e
    ·exact .inr (.inr (.inr (.inr ⟨_,HV.o,e.symm⟩)))
    ·omega
    ·omega)))
  rotate_left
 focus
  refine(dL (HC.o.glo) hg ((K.nd th:Nat):Int)).mono ?_;rw[HR.o];rintro e w2 ⟨rfl,hK,hF⟩;have HD:=aH (HC.o.glob (hF) hK);have HFHD:=aH (hF.mono (S':=CZ B K) (fun z hz=>A9.2 (by simp at hz;omega)));clear hK hF;have m0:=(HBX.o.frm HFHD.o ((HC.o.mut).not HBX.o)).cell (i:=0) rfl;go_wp2_with fail;refine(ir ((HD.o.loc _ HV.o)) ((K.sl th:Nat):Int)).mono ?_;rintro e w4 ⟨rfl,hK,hF⟩;have HE:=aH (HD.o.local HV.o (hF.mono aS) hK);have HFHE:=aH (hF.mono (S':=CZ B K) (fun z hz=>A9.2 (by
   simp at hz;have e:=hz;exact .inr (.inr (.inr (.inr ⟨_,HV.o,e.symm⟩)))
   )))
  clear hK hF
 rotate_left;refine(dL (HC.o.glo) hg ((K.nd th:Nat):Int)).mono ?_;rw[HR.o];rintro e w2 ⟨rfl,hK,hF⟩;have HD:=aH (HC.o.glob (hF) hK);have HFHD:=aH (hF.mono (S':=CZ B K) (fun z hz=>A9.2 (by simp at hz;omega)));clear hK hF;have kp:=HD.o.p0 HJ.o;have kq:=H0.o;rw[show S.TS th 0=_ from kq] at kp;clear kq;rotate_left
 focus
  refine(dL ((HC.o.loc _ HV.o)) (hp _ HV.o) ((K.sl th:Nat):Int)).mono ?_;rw[HR.o];rintro e w2 ⟨rfl,hK,hF⟩;have HD:=aH (HC.o.local HV.o (hF) hK);have HFHD:=aH (hF.mono (S':=CZ B K) (fun z hz=>A9.2 (by
   simp at hz;rcases hz with e|e|e
   ·exact .inr (.inr (.inr (.inr ⟨_,HV.o,e.symm⟩)))
   ·omega
   ·omega)))
  clear hK hF
 rotate_left
 focus
  refine(dL ((HC.o.loc _ HV.o)) (hp _ HV.o) ((K.sl th:Nat):Int)).mono ?_;rw[HR.o];rintro e w2 ⟨rfl,hK,hF⟩;have HD:=aH (HC.o.local HV.o (hF) hK);have HFHD:=aH (hF.mono (S':=CZ B K) (fun z hz=>A9.2 (by
   simp at hz;rcases hz with e|e|e
   ·exact .inr (.inr (.inr (.inr ⟨_,HV.o,e.symm⟩)))
   ·omega
   ·omega)))
  clear hK hF;have kp:=HD.o.p0 HJ.o;have kq:=H0.o;rw[show S.TS th 0=_ from kq] at kp;clear kq
 rotate_left
 focus
  obtain⟨bn,hbn⟩:∃bn,bn=w1.heap.size:=⟨_,rfl⟩
  rw[←hbn] at HBX b0 b1;rw[←hbn];clear hbn;have hne:=aW [B.ab,B.wb] W;have hz0:∀q:HW (fun wx=>ae [B.ab,B.wb] W wx),q.w.cell? (B.cb,0)=some (.pointer (some ⟨B.ab,0,none⟩)):=fun q=>(HC.o.box.frm q.h (((HC.o.mut.sub (Z':=[B.ab,B.wb]) (fun z hz=>A9.2 (by simp at hz;omega))).not HC.o.box))).cell (i:=0) rfl;have hz1:∀q:HW (fun wx=>ae [B.ab,B.wb] W wx),q.w.cell? (bn,1)=some (.int .i64 (K.cn (K.nd th))):=fun q=>(HBX.o.frm q.h (((HC.o.mut.sub (Z':=[B.ab,B.wb]) (fun z hz=>A9.2 (by simp at hz;omega))).not HBX.o))).cell (i:=1) rfl;have hz2:∀q:HW (fun wx=>ae [B.ab,B.wb] W wx),q.w.cell? (B.cs,th*4+1)=some (.int .i64 (S.TS th 1)):=fun q=>(HC.o.row.frm q.h (by have:=HC.o.row.differ HC.o.ar.box aJ;have:=HC.o.row.differ HC.o.ar.row aJ;simp;omega)).cell (ag K.n S.TS HJ.o aO);refine aG (fun wx=>ae [B.ab,B.wb] W wx) ?_;refine aR (fuel:=1) [0,1,2,3,4,5,6,7,8,9,10] rfl aF.drew1 ?_;intro Kq hK;repeat (go_big_quiet_step (fail))
  refine wpQuiet_nil (hK _ ?_);clear hK Kq;refine aL 11 (fuel:=0) rfl ?_;go_wp2_with fail;refine(au ((HC.o.same ((ae.refl [] W).drew1)).ar) ((K.cn (K.nd th):Nat):Int) (wrap64 (S.TS th 1+1))).mono ?_;rintro e w2 ⟨rfl,hA,hF⟩;have HF2:=aH (((ae.refl [B.ab,B.wb] W).drew1).trans hF);have HD:=aH (HC.o.arena HF2.o hA);clear hA hF;go_wp2_with fail;refine af ⟨HF2.o,?_⟩;refine aN ?_;have HFD:=aH (HF2.o.mono (S':=CZ B K) (fun z hz=>A9.2 (by simp at hz;omega)));have j0:=HD.o.p0 HJ.o;have j1:=HD.o.p HJ.o (t:=1) aO;have jz:=HD.o.row.frozen;have g3:=HD.o.box.cell (i:=6) rfl;have hnb:B.ab≠bn∧B.wb≠bn:=⟨HC.o.ar.box.differ HBX.o aJ,HC.o.ar.row.differ HBX.o aJ⟩
  have hb2:=HBX.o.frm HF2.o aQ;have m0:=hb2.cell (i:=0) rfl;clear hne hz0 hz1 hz2 HF2 b0 b1 k0 k1 d6 hb2 hnb;go_wp2_with fail;refine(ir ((HD.o.loc _ HV.o)) ((K.sl th:Nat):Int)).mono ?_;rintro e w4 ⟨rfl,hK,hF⟩;have HE:=aH (HD.o.local HV.o (hF.mono aS) hK);have HFHE:=aH (hF.mono (S':=CZ B K) (fun z hz=>A9.2 (by
   simp at hz;have e:=hz;exact .inr (.inr (.inr (.inr ⟨_,HV.o,e.symm⟩)))
   )))
  clear hK hF
 rotate_left
 focus
  obtain⟨bn,hbn⟩:∃bn,bn=w1.heap.size:=⟨_,rfl⟩
  rw[←hbn] at HBX b0 b1;rw[←hbn];clear hbn;have hne:=aW [B.ab,B.wb] W;have hz0:∀q:HW (fun wx=>ae [B.ab,B.wb] W wx),q.w.cell? (B.cb,0)=some (.pointer (some ⟨B.ab,0,none⟩)):=fun q=>(HC.o.box.frm q.h (((HC.o.mut.sub (Z':=[B.ab,B.wb]) (fun z hz=>A9.2 (by simp at hz;omega))).not HC.o.box))).cell (i:=0) rfl;have hz1:∀q:HW (fun wx=>ae [B.ab,B.wb] W wx),q.w.cell? (bn,1)=some (.int .i64 (K.cn (K.nd th))):=fun q=>(HBX.o.frm q.h (((HC.o.mut.sub (Z':=[B.ab,B.wb]) (fun z hz=>A9.2 (by simp at hz;omega))).not HBX.o))).cell (i:=1) rfl;refine aG (fun wx=>ae [B.ab,B.wb] W wx) ?_;refine aR (fuel:=1) [0,1,2,3,4,5] rfl aF.drew1 ?_;intro Kq hK;repeat (go_big_quiet_step (fail))
  refine wpQuiet_nil (hK _ ?_);clear hK Kq;refine aL 6 (fuel:=0) rfl ?_;go_wp2_with fail;refine(au ((HC.o.same ((ae.refl [] W).drew1)).ar) ((K.cn (K.nd th):Nat):Int) (0)).mono ?_;rintro e w2 ⟨rfl,hA,hF⟩;have HF2:=aH (((ae.refl [B.ab,B.wb] W).drew1).trans hF);have HD:=aH (HC.o.arena HF2.o hA);clear hA hF;go_wp2_with fail;refine af ⟨HF2.o,?_⟩;refine aN ?_;have HFD:=aH (HF2.o.mono (S':=CZ B K) (fun z hz=>A9.2 (by simp at hz;omega)));have j0:=HD.o.p0 HJ.o;have j1:=HD.o.p HJ.o (t:=1) aO;have jz:=HD.o.row.frozen;have g3:=HD.o.box.cell (i:=6) rfl;have hnb:B.ab≠bn∧B.wb≠bn:=⟨HC.o.ar.box.differ HBX.o aJ,HC.o.ar.row.differ HBX.o aJ⟩
  have hb2:=HBX.o.frm HF2.o aQ;have m0:=hb2.cell (i:=0) rfl;clear hne hz0 hz1 HF2 b0 b1 k0 k1 d6 hb2 hnb;go_wp2_with fail;refine(ir (HD.o.glo) ((K.nd th:Nat):Int)).mono ?_;rintro e w4 ⟨rfl,hK,hF⟩;have HE:=aH (HD.o.glob (hF.mono aS) hK);have HFHE:=aH (hF.mono (S':=CZ B K) (fun z hz=>A9.2 (by simp at hz;omega)));clear hK hF
 rotate_left;all_goals
  go_wp2;go_ret
 iterate 2
  have hdr:ae [] W3 (W3.drewN nq):=aF.drew _;exact⟨rfl,HE.o.same hdr,((HFW.o.mono (S':=CZ B K) aS).trans HFE.o).trans (hdr.mono aS)⟩
 iterate 2
  exact⟨rfl,(show AA w2 B K {S with A:=pb (K.L (K.nd th)) (S.LS (K.nd th)) S.A ((K.sl th:Nat):Int)} from v6 HD.o),(HFW.o.mono (S':=CZ B K) aS).trans HFD.o⟩
 ·exact⟨rfl,HE.o,((HFW.o.mono (S':=CZ B K) aS).trans HFHD.o).trans HFHE.o⟩
 iterate 3
  exact⟨rfl,HD.o,(HFW.o.mono (S':=CZ B K) aS).trans HFHD.o⟩
 iterate 2
  exact⟨rfl,HE.o,((HFW.o.mono (S':=CZ B K) aS).trans HFD.o).trans HFHE.o⟩
def dH:= @And.left _ _ Ah
def dG:= @And.left _ _ (@And.right _ _ Ah)
def dK:= @And.left _ _ (@And.right _ _ (@And.right _ _ Ah))
def dJ:= @And.left _ _ (@And.right _ _ (@And.right _ _ (@And.right _ _ Ah)))
def dQ:= @And.left _ _ (@And.right _ _ (@And.right _ _ (@And.right _ _ (@And.right _ _ Ah))))
def dM:= @And.left _ _ (@And.right _ _ (@And.right _ _ (@And.right _ _ (@And.right _ _ (@And.right _ _ Ah)))))
def dV:= @And.left _ _ (@And.right _ _ (@And.right _ _ (@And.right _ _ (@And.right _ _ (@And.right _ _ (@And.right _ _ Ah))))))
def dS:= @And.left _ _ (@And.right _ _ (@And.right _ _ (@And.right _ _ (@And.right _ _ (@And.right _ _ (@And.right _ _ (@And.right _ _ Ah)))))))
def gH:= @And.left _ _ (@And.right _ _ (@And.right _ _ (@And.right _ _ (@And.right _ _ (@And.right _ _ (@And.right _ _ (@And.right _ _ (@And.right _ _ Ah))))))))
def gI:= @And.right _ _ (@And.right _ _ (@And.right _ _ (@And.right _ _ (@And.right _ _ (@And.right _ _ (@And.right _ _ (@And.right _ _ (@And.right _ _ Ah))))))))
end
section
variable{w w':World} {B:CB} {K:CK} {S:CS}
theorem BI:(∀{w:World} {B:CB} {K:CK} {S:CS} (h:AA w B K S) {th:Nat} (hj:th<K.n) (h0:S.TS th 0=2) (hx:¬0<S.A.get ((K.cn (K.nd th):Nat):Int)),Calls prog 227 #[some B.cb,th] w fun e w'=>e= .returned (3:Int)∧AA w' B K ({S with A:=S.A.load ((K.cn (K.nd th):Nat):Int),TS:=ac S.TS th 1 (S.A.get ((K.cn (K.nd th):Nat):Int)),GS:=gj K.G S.GS ((K.nd th:Nat):Int)})∧ae (CZ B K) w w')∧(∀{w:World} {B:CB} {K:CK} {S:CS} (h:AA w B K S) {th:Nat} (hj:th<K.n) (h0:S.TS th 0=2) (hx:0<S.A.get ((K.cn (K.nd th):Nat):Int)),Calls prog 227 #[some B.cb,th] w fun e w'=>e= .returned (10:Int)∧AA w' B K ({S with A:=S.A.load ((K.cn (K.nd th):Nat):Int),TS:=ac S.TS th 1 (S.A.get ((K.cn (K.nd th):Nat):Int))})∧ae (CZ B K) w w')∧(∀{w:World} {B:CB} {K:CK} {S:CS} (h:AA w B K S) {th:Nat} (hj:th<K.n) (h0:S.TS th 0=4),Calls prog 227 #[some B.cb,th] w fun e w'=>e= .returned (10:Int)∧AA w' B K ({S with A:=S.A.store ((K.cn (K.nd th):Nat):Int) 1,TS:=ac S.TS th 1 1})∧ae (CZ B K) w w')∧(∀{w:World} {B:CB} {K:CK} {S:CS} (h:AA w B K S) {th:Nat} (hj:th<K.n) (h0:S.TS th 0=1) (hp:∀v,v<K.E→(K.L v).k=4→gq (K.L v).n (S.LS v)) (hR:ca (K.L (K.nd th)) (S.LS (K.nd th)) S.A ((K.sl th:Nat):Int)=true),Calls prog 227 #[some B.cb,th] w fun e w'=>e= .returned (2:Int)∧AA w' B K ({S with A:=b7 (K.L (K.nd th)) (S.LS (K.nd th)) S.A ((K.sl th:Nat):Int),LS:=C1 S.LS (K.nd th) (bV (K.L (K.nd th)) (S.LS (K.nd th)) S.A ((K.sl th:Nat):Int))})∧ae (CZ B K) w w')∧(∀{w:World} {B:CB} {K:CK} {S:CS} (h:AA w B K S) {th:Nat} (hj:th<K.n) (h0:S.TS th 0=1) (hp:∀v,v<K.E→(K.L v).k=4→gq (K.L v).n (S.LS v)) (hR:ca (K.L (K.nd th)) (S.LS (K.nd th)) S.A ((K.sl th:Nat):Int)=false),Calls prog 227 #[some B.cb,th] w fun e w'=>e= .returned (1:Int)∧AA w' B K ({S with A:=b7 (K.L (K.nd th)) (S.LS (K.nd th)) S.A ((K.sl th:Nat):Int),LS:=C1 S.LS (K.nd th) (bV (K.L (K.nd th)) (S.LS (K.nd th)) S.A ((K.sl th:Nat):Int))})∧ae (CZ B K) w w')∧(∀{w:World} {B:CB} {K:CK} {S:CS} (h:AA w B K S) {th:Nat} (hj:th<K.n) (h0:S.TS th 0=3) (hg:K.G.k=4→gq K.G.n S.GS) (hR:ca K.G S.GS S.A ((K.nd th:Nat):Int)=true),Calls prog 227 #[some B.cb,th] w fun e w'=>e= .returned (4:Int)∧AA w' B K ({S with A:=b7 K.G S.GS S.A ((K.nd th:Nat):Int),GS:=bV K.G S.GS S.A ((K.nd th:Nat):Int)})∧ae (CZ B K) w w')∧(∀{w:World} {B:CB} {K:CK} {S:CS} (h:AA w B K S) {th:Nat} (hj:th<K.n) (h0:S.TS th 0=3) (hg:K.G.k=4→gq K.G.n S.GS) (hR:ca K.G S.GS S.A ((K.nd th:Nat):Int)=false),Calls prog 227 #[some B.cb,th] w fun e w'=>e= .returned (3:Int)∧AA w' B K ({S with A:=b7 K.G S.GS S.A ((K.nd th:Nat):Int),GS:=bV K.G S.GS S.A ((K.nd th:Nat):Int)})∧ae (CZ B K) w w'):=by
 refine⟨?_,?_,?_,?_,?_,?_,?_⟩;iterate 2
  intro w B K S h th hj h0 hx;rotate_left
 intro w B K S h th hj h0;rotate_left;iterate 2
  intro w B K S h th hj h0 hp hR;rotate_left
 iterate 2
  intro w B K S h th hj h0 hg hR;rotate_left
 all_goals
  have HJ:=aH hj;have hn32:=h.n32;have HV:=aH (h.nd_lt hj);have HOF:=aH (rX h hj);have c8:=h.box.cell (i:=8) rfl;have l1:(th:Int)<K.n:=by omega
  have H:=aH h;have H0:=aH h0
 obtain⟨x,hxx⟩:∃x,S.A.get ((K.cn (K.nd th):Nat):Int)=x:=⟨_,rfl⟩
 rw[hxx] at hx⊢;have HX:=aH hxx;have dx:decide (0<x)=false:=by simpa using hx
 clear hxx;rotate_left;obtain⟨x,hxx⟩:∃x,S.A.get ((K.cn (K.nd th):Nat):Int)=x:=⟨_,rfl⟩
 rw[hxx] at hx⊢;have HX:=aH hxx;have dx:decide (0<x)=true:=by simpa using hx
 clear hxx;rotate_left;rotate_left;iterate 4
  have HR:=aH hR;clear hR;rotate_left
 all_goals
  clear h h0 hj;go_enter func227,ntmps227;go_wp2_with fail;refine HOF.o.mono ?_;rintro e w1 ⟨rfl,hF⟩;have hWX:ae [] w1 (w1.alloc (.cells #[some (B.fb (K.nd th)),(K.cn (K.nd th):Int)] 203)):=aF.alloc _;have hbx:=am.new w1 #[some (B.fb (K.nd th)),(K.cn (K.nd th):Int)] 203;have hC:=H.o.same (hF.trans hWX);have k0:=hC.p0 HJ.o;rw[H0.o] at k0;have k1:=hC.p HJ.o (t:=1) aO;have b0:=hbx.cell (i:=0) rfl;have b1:=hbx.cell (i:=1) rfl;have d6:=hC.box.cell (i:=6) rfl;have HFW:=aH (hF.trans hWX);have HBX:=aH hbx;have HC:=aH hC;have hbw:w.heap.size≤w1.heap.size:=hF.size;clear hWX hbx hC hF;go_wp2_with fail;generalize w1.alloc (.cells #[some (B.fb (K.nd th)),(K.cn (K.nd th):Int)] 203)=W at*
 focus
  obtain⟨bn,hbn⟩:∃bn,bn=w1.heap.size:=⟨_,rfl⟩
  rw[←hbn] at HBX b0 b1;rw[←hbn];clear hbn;have hne:=aW [B.cs,B.ab,B.wb] W;have hz0:∀q:HW (fun wx=>ae [B.cs,B.ab,B.wb] W wx),q.w.cell? (B.cb,0)=some (.pointer (some ⟨B.ab,0,none⟩)):=fun q=>(HC.o.box.frm q.h (((HC.o.mut.sub (Z':=[B.cs,B.ab,B.wb]) (fun z hz=>A9.2 (by simp at hz;omega))).not HC.o.box))).cell (i:=0) rfl;have hz1:∀q:HW (fun wx=>ae [B.cs,B.ab,B.wb] W wx),q.w.cell? (bn,1)=some (.int .i64 (K.cn (K.nd th))):=fun q=>(HBX.o.frm q.h (((HC.o.mut.sub (Z':=[B.cs,B.ab,B.wb]) (fun z hz=>A9.2 (by simp at hz;omega))).not HBX.o))).cell (i:=1) rfl;refine aG (fun wx=>ae [B.cs,B.ab,B.wb] W wx) ?_;refine aR (fuel:=4) [0,1,2,3,4,5,6] rfl aF.drew1 ?_;intro Kq hK;repeat (go_big_quiet_step (fail))
  refine wpQuiet_nil (hK _ ?_);clear hK Kq;refine aL 7 (fuel:=3) rfl ?_;go_wp2_with fail;refine(bq ((HC.o.same ((ae.refl [] W).drew1)).ar) ((K.cn (K.nd th):Nat):Int)).mono ?_;rw[HX.o];rintro e w2 ⟨rfl,hA,hF⟩;have HF2:=aH (((ae.refl [B.ab,B.wb] W).drew1).trans hF);have HD:=aH (HC.o.arena HF2.o hA);have j1:=HD.o.p HJ.o (t:=1) aO;have jz:=HD.o.row.frozen;clear hA hF;go_wp2_with fail;refine af ⟨HF2.o.mono aS,?_⟩;refine aR (fuel:=1) [8,9] rfl (HF2.o.mono aS) ?_;intro Kq hK;repeat (go_big_quiet_step (fail))
  refine wpQuiet_nil (hK _ ?_);clear hK Kq;refine aL 10 (fuel:=0) rfl ?_;go_wp2_with fail;refine af ⟨(HF2.o.mono (S':=[B.cs,B.ab,B.wb]) aS).set _ _ (.inl aS),?_⟩;refine aN ?_;have HE:=aH (HD.o.put th (t:=1) aO x);have HFE:=aH (((HF2.o.mono (S':=[B.cs,B.ab,B.wb]) aS).set ⟨B.cs,th*4+1,none⟩ (.int .i64 x) (.inl aS)).mono (S':=CZ B K) (fun z hz=>A9.2 (by simp at hz;omega)));clear j1 jz hne hz0 hz1 HD HF2 b0 b1 k0 k1 d6;generalize w2.setCell (B.cs,th*4+1) (.int .i64 x)=W3 at*;have e1:W3.cell? (B.cs,th*4+1)=some (.int .i64 x):=(HE.o.p HJ.o (t:=1) aO).trans (by simp[ac]);have e0:=HE.o.p0 HJ.o;have g3:=HE.o.box.cell (i:=6) rfl;go_wp2_with fail;refine(nL (HE.o.glo) ((K.nd th:Nat):Int)).mono ?_;rintro e w4 ⟨rfl,hK,hF⟩;have HD:=aH (HE.o.glob (hF.mono aS) hK);have HFHD:=aH (hF.mono (S':=CZ B K) (fun z hz=>A9.2 (by simp at hz;omega)));clear hK hF;go_wp2
 rotate_left
 focus
  obtain⟨bn,hbn⟩:∃bn,bn=w1.heap.size:=⟨_,rfl⟩
  rw[←hbn] at HBX b0 b1;rw[←hbn];clear hbn;have hne:=aW [B.cs,B.ab,B.wb] W;have hz0:∀q:HW (fun wx=>ae [B.cs,B.ab,B.wb] W wx),q.w.cell? (B.cb,0)=some (.pointer (some ⟨B.ab,0,none⟩)):=fun q=>(HC.o.box.frm q.h (((HC.o.mut.sub (Z':=[B.cs,B.ab,B.wb]) (fun z hz=>A9.2 (by simp at hz;omega))).not HC.o.box))).cell (i:=0) rfl;have hz1:∀q:HW (fun wx=>ae [B.cs,B.ab,B.wb] W wx),q.w.cell? (bn,1)=some (.int .i64 (K.cn (K.nd th))):=fun q=>(HBX.o.frm q.h (((HC.o.mut.sub (Z':=[B.cs,B.ab,B.wb]) (fun z hz=>A9.2 (by simp at hz;omega))).not HBX.o))).cell (i:=1) rfl;refine aG (fun wx=>ae [B.cs,B.ab,B.wb] W wx) ?_;refine aR (fuel:=4) [0,1,2,3,4,5,6] rfl aF.drew1 ?_;intro Kq hK;repeat (go_big_quiet_step (fail))
  refine wpQuiet_nil (hK _ ?_);clear hK Kq;refine aL 7 (fuel:=3) rfl ?_;go_wp2_with fail;refine(bq ((HC.o.same ((ae.refl [] W).drew1)).ar) ((K.cn (K.nd th):Nat):Int)).mono ?_;rw[HX.o];rintro e w2 ⟨rfl,hA,hF⟩;have HF2:=aH (((ae.refl [B.ab,B.wb] W).drew1).trans hF);have HD:=aH (HC.o.arena HF2.o hA);have j1:=HD.o.p HJ.o (t:=1) aO;have jz:=HD.o.row.frozen;clear hA hF;go_wp2_with fail;refine af ⟨HF2.o.mono aS,?_⟩;refine aR (fuel:=1) [8,9] rfl (HF2.o.mono aS) ?_;intro Kq hK;repeat (go_big_quiet_step (fail))
  refine wpQuiet_nil (hK _ ?_);clear hK Kq;refine aL 10 (fuel:=0) rfl ?_;go_wp2_with fail;refine af ⟨(HF2.o.mono (S':=[B.cs,B.ab,B.wb]) aS).set _ _ (.inl aS),?_⟩;refine aN ?_;have HE:=aH (HD.o.put th (t:=1) aO x);have HFE:=aH (((HF2.o.mono (S':=[B.cs,B.ab,B.wb]) aS).set ⟨B.cs,th*4+1,none⟩ (.int .i64 x) (.inl aS)).mono (S':=CZ B K) (fun z hz=>A9.2 (by simp at hz;omega)));clear j1 jz hne hz0 hz1 HD HF2 b0 b1 k0 k1 d6;generalize w2.setCell (B.cs,th*4+1) (.int .i64 x)=W3 at*;have e1:W3.cell? (B.cs,th*4+1)=some (.int .i64 x):=(HE.o.p HJ.o (t:=1) aO).trans (by simp[ac]);have e0:=HE.o.p0 HJ.o;go_wp2
 rotate_left
 focus
  obtain⟨bn,hbn⟩:∃bn,bn=w1.heap.size:=⟨_,rfl⟩
  rw[←hbn] at HBX b0 b1;rw[←hbn];clear hbn;have hne:=aW [B.ab,B.wb] W;have hz0:∀q:HW (fun wx=>ae [B.ab,B.wb] W wx),q.w.cell? (B.cb,0)=some (.pointer (some ⟨B.ab,0,none⟩)):=fun q=>(HC.o.box.frm q.h (((HC.o.mut.sub (Z':=[B.ab,B.wb]) (fun z hz=>A9.2 (by simp at hz;omega))).not HC.o.box))).cell (i:=0) rfl;have hz1:∀q:HW (fun wx=>ae [B.ab,B.wb] W wx),q.w.cell? (bn,1)=some (.int .i64 (K.cn (K.nd th))):=fun q=>(HBX.o.frm q.h (((HC.o.mut.sub (Z':=[B.ab,B.wb]) (fun z hz=>A9.2 (by simp at hz;omega))).not HBX.o))).cell (i:=1) rfl;refine aG (fun wx=>ae [B.ab,B.wb] W wx) ?_;refine aR (fuel:=1) [0,1,2,3,4,5] rfl aF.drew1 ?_;intro Kq hK;repeat (go_big_quiet_step (fail))
  refine wpQuiet_nil (hK _ ?_);clear hK Kq;refine aL 6 (fuel:=0) rfl ?_;go_wp2_with fail;refine(au ((HC.o.same ((ae.refl [] W).drew1)).ar) ((K.cn (K.nd th):Nat):Int) (1)).mono ?_;rintro e w2 ⟨rfl,hA,hF⟩;have HF2:=aH (((ae.refl [B.ab,B.wb] W).drew1).trans hF);have HD:=aH (HC.o.arena HF2.o hA);clear hA hF;go_wp2_with fail;refine af ⟨HF2.o,?_⟩;refine aN ?_;have HFD:=aH (HF2.o.mono (S':=CZ B K) (fun z hz=>A9.2 (by simp at hz;omega)));have j0:=HD.o.p0 HJ.o;have j1:=HD.o.p HJ.o (t:=1) aO;have jz:=HD.o.row.frozen;have g3:=HD.o.box.cell (i:=6) rfl;have hnb:B.ab≠bn∧B.wb≠bn:=⟨HC.o.ar.box.differ HBX.o aJ,HC.o.ar.row.differ HBX.o aJ⟩
  have hb2:=HBX.o.frm HF2.o aQ;have m0:=hb2.cell (i:=0) rfl;clear hne hz0 hz1 HF2 b0 b1 k0 k1 d6 hb2 hnb;go_wp2_with fail;have HE:=aH (HD.o.put th (t:=1) aO 1);have HFE:=aH (HFD.o.set ⟨B.cs,th*4+1,none⟩ (.int .i64 1) (.inl (A9.2 (.inl rfl))))
 rotate_left
 focus
  refine(dL ((HC.o.loc _ HV.o)) (hp _ HV.o) ((K.sl th:Nat):Int)).mono ?_;rw[HR.o];rintro e w2 ⟨rfl,hK,hF⟩;have HD:=aH (HC.o.local HV.o (hF) hK);have HFHD:=aH (hF.mono (S':=CZ B K) (fun z hz=>A9.2 (by
   simp at hz;rcases hz with e|e|e
   ·exact .inr (.inr (.inr (.inr ⟨_,HV.o,e.symm⟩)))
   ·omega
   ·omega)))
  clear hK hF;go_wp2
 rotate_left
 focus
  refine(dL ((HC.o.loc _ HV.o)) (hp _ HV.o) ((K.sl th:Nat):Int)).mono ?_;rw[HR.o];rintro e w2 ⟨rfl,hK,hF⟩;have HD:=aH (HC.o.local HV.o (hF) hK);have HFHD:=aH (hF.mono (S':=CZ B K) (fun z hz=>A9.2 (by
   simp at hz;rcases hz with e|e|e
   ·exact .inr (.inr (.inr (.inr ⟨_,HV.o,e.symm⟩)))
   ·omega
   ·omega)))
  clear hK hF;have kp:=HD.o.p0 HJ.o;have kq:=H0.o;rw[show S.TS th 0=_ from kq] at kp;clear kq;go_wp2
 rotate_left
 focus
  refine(dL (HC.o.glo) hg ((K.nd th:Nat):Int)).mono ?_;rw[HR.o];rintro e w2 ⟨rfl,hK,hF⟩;have HD:=aH (HC.o.glob (hF) hK);have HFHD:=aH (hF.mono (S':=CZ B K) (fun z hz=>A9.2 (by simp at hz;omega)));clear hK hF;go_wp2
 rotate_left
 focus
  refine(dL (HC.o.glo) hg ((K.nd th:Nat):Int)).mono ?_;rw[HR.o];rintro e w2 ⟨rfl,hK,hF⟩;have HD:=aH (HC.o.glob (hF) hK);have HFHD:=aH (hF.mono (S':=CZ B K) (fun z hz=>A9.2 (by simp at hz;omega)));clear hK hF;have kp:=HD.o.p0 HJ.o;have kq:=H0.o;rw[show S.TS th 0=_ from kq] at kp;clear kq;go_wp2
 rotate_left;all_goals
  go_ret
 ·exact⟨rfl,HD.o,((HFW.o.mono (S':=CZ B K) aS).trans HFE.o).trans HFHD.o⟩
 iterate 2
  exact⟨rfl,HE.o,(HFW.o.mono (S':=CZ B K) aS).trans HFE.o⟩
 iterate 4
  exact⟨rfl,HD.o,(HFW.o.mono (S':=CZ B K) aS).trans HFHD.o⟩
def mg:= @And.left _ _ BI
def mj:= @And.left _ _ (@And.right _ _ BI)
def rZ:= @And.left _ _ (@And.right _ _ (@And.right _ _ BI))
def mf:= @And.left _ _ (@And.right _ _ (@And.right _ _ (@And.right _ _ BI)))
def mb:= @And.left _ _ (@And.right _ _ (@And.right _ _ (@And.right _ _ (@And.right _ _ BI))))
def mn:= @And.left _ _ (@And.right _ _ (@And.right _ _ (@And.right _ _ (@And.right _ _ (@And.right _ _ BI)))))
def ml:= @And.right _ _ (@And.right _ _ (@And.right _ _ (@And.right _ _ (@And.right _ _ (@And.right _ _ BI)))))
end
def Fv (K:CK) (S:CS) (th:Nat):CS×Int:=
 if S.TS th 0=1 then({S with A:=b7 (K.L (K.nd th)) (S.LS (K.nd th)) S.A (K.sl th:Nat),LS:=C1 S.LS (K.nd th) (bV (K.L (K.nd th)) (S.LS (K.nd th)) S.A (K.sl th:Nat))},if ca (K.L (K.nd th)) (S.LS (K.nd th)) S.A (K.sl th:Nat) then 2 else 1)
 else if S.TS th 0=2 then
  (if 0<S.A.get (K.cn (K.nd th):Nat) then({S with A:=S.A.load (K.cn (K.nd th):Nat),TS:=ac S.TS th 1 (S.A.get (K.cn (K.nd th):Nat))},10)
   else({S with A:=S.A.load (K.cn (K.nd th):Nat),TS:=ac S.TS th 1 (S.A.get (K.cn (K.nd th):Nat)),GS:=gj K.G S.GS (K.nd th:Nat)},3))
 else if S.TS th 0=3 then({S with A:=b7 K.G S.GS S.A (K.nd th:Nat),GS:=bV K.G S.GS S.A (K.nd th:Nat)},if ca K.G S.GS S.A (K.nd th:Nat) then 4 else 3)
 else({S with A:=S.A.store (K.cn (K.nd th):Nat) 1,TS:=ac S.TS th 1 1},10)
def CR (K:CK) (S:CS) (th:Nat):CS×Int:=
 if S.TS th 0=11 then({S with A:=S.A.load (K.cn (K.nd th):Nat),TS:=ac S.TS th 1 (S.A.get (K.cn (K.nd th):Nat))},if K.bud<S.A.get (K.cn (K.nd th):Nat) then 14 else 12)
 else if S.TS th 0=12 then({S with A:=pb (K.L (K.nd th)) (S.LS (K.nd th)) S.A (K.sl th:Nat)},if passes (S.TS th 1) K.bud (o5 (K.L (K.nd th)) (S.LS (K.nd th)) S.A (K.sl th:Nat)) then 13 else 14)
 else if S.TS th 0=13 then({S with A:=S.A.store (K.cn (K.nd th):Nat) (wrap64 (S.TS th 1+1)),LS:=C1 S.LS (K.nd th) (cQ (K.L (K.nd th)) (S.LS (K.nd th)) (K.sl th:Nat))},16)
 else if S.TS th 0=14 then({S with A:=S.A.store (K.cn (K.nd th):Nat) 0,GS:=cQ K.G S.GS (K.nd th:Nat)},15)
 else if S.TS th 0=15 then
  (if ca K.G S.GS S.A (K.nd th:Nat) then({S with A:=b7 K.G S.GS S.A (K.nd th:Nat),GS:=bV K.G S.GS S.A (K.nd th:Nat),LS:=C1 S.LS (K.nd th) (cQ (K.L (K.nd th)) (S.LS (K.nd th)) (K.sl th:Nat))},16)
   else({S with A:=b7 K.G S.GS S.A (K.nd th:Nat),GS:=bV K.G S.GS S.A (K.nd th:Nat)},15))
 else({S with A:=b7 (K.L (K.nd th)) (S.LS (K.nd th)) S.A (K.sl th:Nat),LS:=C1 S.LS (K.nd th) (bV (K.L (K.nd th)) (S.LS (K.nd th)) S.A (K.sl th:Nat))},if ca (K.L (K.nd th)) (S.LS (K.nd th)) S.A (K.sl th:Nat) then 0 else 16)
def Iz (K:CK) (S:CS) (th:Nat):CS×Int:=if S.TS th 0<10 then Fv K S th else CR K S th
def Du (K:CK) (S:CS) (i:Int):Bool:=aZ K.n i&& !(S.TS i.toNat 0==0)&& !(S.TS i.toNat 0==10)
def AN (K:CK) (S:CS) (i:Int):CS:=if Du K S i then{(Iz K S i.toNat).1 with TS:=ac (Iz K S i.toNat).1.TS i.toNat 0 (Iz K S i.toNat).2} else S
def Ab (K:CK) (S:CS) (i:Int):Bool:=Du K S i&&((Iz K S i.toNat).2==10||(Iz K S i.toNat).2==0)
structure Ax (K:CK) (S:CS):Prop where
 th:∀t,t<K.n→(0≤S.TS t 0∧S.TS t 0≤4)∨(10≤S.TS t 0∧S.TS t 0≤16)
 lo:∀v,v<K.E→(K.L v).k=4→gq (K.L v).n (S.LS v)
 gl:K.G.k=4→gq K.G.n S.GS
section
variable{w w':World} {B:CB} {K:CK} {S:CS}
theorem Bw {f:Nat} {th:Nat} {W:World} {S':CS} {x:CS×Int} {res:Int} (e:x=(S',res))
 (h:Calls prog f #[some B.cb,th] W fun e w'=>e= .returned res∧AA w' B K S'∧ae (CZ B K) W w'):
 Calls prog f #[some B.cb,th] W fun e w'=>e= .returned x.2∧AA w' B K x.1∧ae (CZ B K) W w':=by
 subst e;exact h
theorem g9 (h:AA w B K S) (hp:Ax K S) {th:Nat} (hj:th<K.n) (hq:1≤S.TS th 0∧S.TS th 0≤4):
 Calls prog 227 #[some B.cb,th] w fun e w'=>e= .returned (.int .i64 (Fv K S th).2)∧AA w' B K (Fv K S th).1∧ae (CZ B K) w w':=by
 rcases(by omega:S.TS th 0=1∨S.TS th 0=2∨S.TS th 0=3∨S.TS th 0=4) with q|q|q|q
 ·cases g:ca (K.L (K.nd th)) (S.LS (K.nd th)) S.A ((K.sl th:Nat):Int) with
  |true=>exact Bw (by unfold Fv;rw[if_pos q,if_pos g]) (mf h hj q hp.lo g)
  |false=>exact Bw (by unfold Fv;rw[if_pos q,if_neg (by simp[g])]) (mb h hj q hp.lo g)
 ·by_cases g:0<S.A.get ((K.cn (K.nd th):Nat):Int)
  ·exact Bw (by unfold Fv;rw[if_neg aO,if_pos q,if_pos g]) (mj h hj q g)
  ·exact Bw (by unfold Fv;rw[if_neg aO,if_pos q,if_neg g]) (mg h hj q g)
 ·cases g:ca K.G S.GS S.A ((K.nd th:Nat):Int) with
  |true=>exact Bw (by unfold Fv;rw[if_neg aO,if_neg aO,if_pos q,if_pos g]) (mn h hj q hp.gl g)
  |false=>exact Bw (by unfold Fv;rw[if_neg aO,if_neg aO,if_pos q,if_neg (by simp[g])]) (ml h hj q hp.gl g)
 ·exact Bw (by unfold Fv;rw[if_neg aO,if_neg aO,if_neg aO]) (rZ h hj q)
theorem dE (h:AA w B K S) (hp:Ax K S) {th:Nat} (hj:th<K.n) (hq:11≤S.TS th 0∧S.TS th 0≤16):
 Calls prog 228 #[some B.cb,th] w fun e w'=>e= .returned (.int .i64 (CR K S th).2)∧AA w' B K (CR K S th).1∧ae (CZ B K) w w':=by
 rcases(by omega:S.TS th 0=11∨S.TS th 0=12∨S.TS th 0=13∨S.TS th 0=14∨S.TS th 0=15∨S.TS th 0=16) with q|q|q|q|q|q
 ·by_cases g:K.bud<S.A.get ((K.cn (K.nd th):Nat):Int)
  ·exact Bw (by unfold CR;rw[if_pos q,if_pos g]) (dH h hj q g)
  ·exact Bw (by unfold CR;rw[if_pos q,if_neg g]) (dG h hj q g)
 ·cases g:passes (S.TS th 1) K.bud (o5 (K.L (K.nd th)) (S.LS (K.nd th)) S.A ((K.sl th:Nat):Int)) with
  |true=>exact Bw (by unfold CR;rw[if_neg aO,if_pos q,if_pos g]) (dK h hj q g)
  |false=>exact Bw (by unfold CR;rw[if_neg aO,if_pos q,if_neg (by simp[g])]) (dJ h hj q g)
 ·exact Bw (by unfold CR;rw[if_neg aO,if_neg aO,if_pos q]) (gH h hj q)
 ·exact Bw (by unfold CR;rw[if_neg aO,if_neg aO,if_neg aO,if_pos q]) (gI h hj q)
 ·cases g:ca K.G S.GS S.A ((K.nd th:Nat):Int) with
  |true=>exact Bw (by unfold CR;rw[if_neg aO,if_neg aO,if_neg aO,if_neg aO,if_pos q,if_pos g]) (dQ h hj q hp.gl g)
  |false=>exact Bw (by unfold CR;rw[if_neg aO,if_neg aO,if_neg aO,if_neg aO,if_pos q,if_neg (by simp[g])]) (dM h hj q hp.gl g)
 ·cases g:ca (K.L (K.nd th)) (S.LS (K.nd th)) S.A ((K.sl th:Nat):Int) with
  |true=>exact Bw (by unfold CR;rw[if_neg aO,if_neg aO,if_neg aO,if_neg aO,if_neg aO,if_pos g]) (dV h hj q hp.lo g)
  |false=>exact Bw (by unfold CR;rw[if_neg aO,if_neg aO,if_neg aO,if_neg aO,if_neg aO,if_neg (by simp[g])]) (dS h hj q hp.lo g)
theorem Dw:(∀{w:World} {B:CB} {K:CK} {S:CS} (h:AA w B K S) {j:Nat} (hj:j<K.n) {pc res:Int} {S':CS} (h0:S.TS j 0=pc) (hpc:1≤pc∧pc<10) (HC:∀W,ae [] w W→Calls prog 227 #[some B.cb,j] W fun e w'=>e= .returned res∧AA w' B K S'∧ae (CZ B K) W w'),Calls prog 223 #[some B.cb,j] w fun e w'=>e= .returned (.bool (res==10||res==0))∧AA w' B K {S' with TS:=ac S'.TS j 0 res}∧ae (CZ B K) w w')∧(∀{w:World} {B:CB} {K:CK} {S:CS} (h:AA w B K S) {j:Nat} (hj:j<K.n) {pc res:Int} {S':CS} (h0:S.TS j 0=pc) (hpc:10<pc) (HC:∀W,ae [] w W→Calls prog 228 #[some B.cb,j] W fun e w'=>e= .returned res∧AA w' B K S'∧ae (CZ B K) W w'),Calls prog 223 #[some B.cb,j] w fun e w'=>e= .returned (.bool (res==10||res==0))∧AA w' B K {S' with TS:=ac S'.TS j 0 res}∧ae (CZ B K) w w'):=by
 refine⟨?_,?_⟩;all_goals
  intro w B K S h j hj pc res S' h0 hpc HC
 all_goals
  have HS:=aH (Fw h j);have fd:=dR;have hr:dq K.n S.TS j= .agg #[pc,(S.TS j 1:Int),(S.TS j 2:Int),(S.TS j 3:Int)]:=by unfold dq;rw[bP hj,if_pos rfl,←h0];rfl
  rw[hr] at HS;have HJ:=aH hj;have hn32:=h.n32;have l1:(j:Int)<K.n:=by omega
  have d0:(pc==0)=false:=by simp;omega
  have d1:(pc==10)=false:=by simp;omega
 have d2:decide (pc<10)=true:=by simp;omega
 rotate_left;have d2:decide (pc<10)=false:=by simp;omega
 rotate_left;all_goals
  have H:=aH h;have HCC:=aH HC;clear HC hr h h0 hpc hj;cases r1:(res==10)
  all_goals
   cases r2:(res==0)
   all_goals
    first
     |(exfalso;simp at r1 r2;omega)
     |skip
  all_goals
   go_enter func223,ntmps223;go_wp2_with fail;refine HS.o.mono ?_;rintro e W ⟨rfl,hF⟩;have HFW:=aH hF;have HA:=aH (H.o.same hF);clear hF;have hne:Nonempty (HW (fun wx=>ae (CZ B K) W wx)):=⟨⟨W,aF⟩⟩
   have hz0:∀q:HW (fun wx=>ae (CZ B K) W wx),q.w.cell? (B.cb,8)=some (.slice (some ⟨B.cs,0,none⟩) K.n K.n):=fun q=>(HA.o.box.frm q.h (HA.o.mut.not HA.o.box)).cell (i:=8) rfl;go_wp2_with fail;refine aG (fun wx=>ae (CZ B K) W wx) ?_;refine aR (fuel:=4) [0,1,2,3,4,5,6] rfl aF.drew1 ?_;intro Kq hK;repeat (go_big_quiet_step (fail))
   refine wpQuiet_nil (hK _ ?_);clear hK Kq;refine aL 7 (fuel:=3) rfl ?_;go_wp2_with fail;refine(HCC.o _ (HFW.o.drew1)).mono ?_;rintro e w2 ⟨rfl,hD,hF⟩;have HD:=aH hD;have HF2:=aH (((ae.refl (CZ B K) W).drew1).trans hF);have k0:=hD.p0 HJ.o;have kz:=hD.row.frozen;clear hD hF;go_wp2_with fail;refine af ⟨HF2.o,?_⟩;refine aR (fuel:=1) [8,9] rfl HF2.o ?_;intro Kq hK;repeat (go_big_quiet_step (fail))
   refine wpQuiet_nil (hK _ ?_);clear hK Kq;refine aL 10 (fuel:=0) rfl ?_;go_wp2_with fail;refine af ⟨HF2.o.set _ _ (.inl (A9.2 (.inl rfl))),?_⟩;refine aN ?_;have HE:=aH (HD.o.put j (t:=0) aO res);have HFE:=aH (HF2.o.set ⟨B.cs,j*4,none⟩ (.int .i64 res) (.inl (A9.2 (.inl rfl))));have e0:(w2.setCell (B.cs,j*4) (.int .i64 res)).cell? (B.cs,j*4)=some (.int .i64 res):=(HE.o.p0 HJ.o).trans (by simp[ac]);have e8:=HE.o.box.cell (i:=8) rfl;clear k0 kz hne hz0;generalize w2.setCell (B.cs,j*4) (.int .i64 res)=W3 at*;go_wp2;go_ret;exact⟨rfl,HE.o,(HFW.o.mono aS).trans HFE.o⟩
def Js:= @And.left _ _ Dw
def J1:= @And.right _ _ Dw
theorem rU (h:AA w B K S) (i:Int) (hi:aZ K.n i=false∨S.TS i.toNat 0=0∨S.TS i.toNat 0=10):Calls prog 223 #[some B.cb,i] w fun e w'=>e= .returned false∧ae [] w w':=by
 have HS:=aH (Fw h i);have fd:=dR;have hv:∃a b c p:Int,(p=0∨p=10)∧dq K.n S.TS i= .agg #[p,a,b,c]:=by
  unfold dq;by_cases hh:aZ K.n i=true
  ·rw[if_pos hh];exact⟨_,_,_,_,hi.resolve_left (by simp[hh]),rfl⟩
  ·rw[if_neg hh];exact⟨0,0,0,0,.inl rfl,rfl⟩
 obtain⟨a,b,c,p,hp,hv⟩:=hv;rw[hv] at HS;clear hv hi h;rcases hp with rfl|rfl;all_goals
  go_enter func223,ntmps223;go_wp2_with fail;refine HS.o.mono ?_;rintro e w1 ⟨rfl,hF⟩;have HF:=aH hF;clear hF;go_wp2;go_ret;exact⟨rfl,HF.o⟩
theorem Fx (h:AA w B K S) (hp:Ax K S) (i:Int):Calls prog 223 #[some B.cb,i] w fun e w'=>e= .returned (.bool (Ab K S i))∧AA w' B K (AN K S i)∧ae (CZ B K) w w':=by
 unfold Ab AN;cases hm:Du K S i with
 |false=>
  simp only[Bool.false_and,Bool.false_eq_true,if_false];refine(rU h i ?_).mono fun e w' ⟨h1,h2⟩=>⟨h1,h.same h2,h2.mono aS⟩
  unfold Du at hm;cases g:aZ K.n i with
  |false=>exact .inl rfl
  |true=>
   rw[g] at hm;by_cases g0:S.TS i.toNat 0=0
   ·exact .inr (.inl g0)
   ·by_cases g1:S.TS i.toNat 0=10
    ·exact .inr (.inr g1)
    ·simp[g0,g1] at hm
 |true=>
  have hm':aZ K.n i=true∧¬S.TS i.toNat 0=0∧¬S.TS i.toNat 0=10:=by unfold Du at hm;simpa[and_assoc] using hm
  obtain⟨hi,g0,g1⟩:=hm';have hi':0≤i∧i<(K.n:Int):=by unfold aZ at hi;simpa using hi
  obtain⟨j,rfl⟩:=Int.eq_ofNat_of_zero_le hi'.1;have hj:j<K.n:=by omega
  rw[Int.toNat_natCast] at g0 g1⊢;have hpj:=hp.th j hj;simp only[Bool.true_and,if_true];unfold Iz;by_cases q:S.TS j 0<10
  ·simp only[if_pos q];exact Js h hj rfl aO fun W hf=>g9 (h.same hf) hp hj aO
  ·simp only[if_neg q];exact J1 h hj rfl aO fun W hf=>dE (h.same hf) hp hj aO
end
def B4 (K:CK) (S:CS) (i:Int):CS:=if ah K.n S.TS i 0 then{S with LS:=C1 S.LS (K.nd i.toNat) (gj (K.L (K.nd i.toNat)) (S.LS (K.nd i.toNat)) (K.sl i.toNat:Nat)),TS:=ac S.TS i.toNat 0 1} else S
def Am (K:CK) (S:CS) (i:Int):CS:={S with TS:=a8 K.n S.TS i 10 11}
def Fu (K:CK) (S:CS) (i:Int):Int:=if ah K.n S.TS i 10 then S.TS i.toNat 1 else 0
section
variable{w w':World} {B:CB} {K:CK} {S:CS}
theorem Hf (h:AA w B K S) (i:Int):Calls prog 219 #[some B.cb,i] w fun e w'=>e= .returned (.bool (ah K.n S.TS i 0))∧AA w' B K (B4 K S i)∧ae (CZ B K) w w':=by
 have HH:=aH (pu h i);have hnot:= @aX prog;cases hi:aZ K.n i with
 |false=>
  have hr:ah K.n S.TS i 0=false:=by unfold ah;rw[hi];rfl
  have hr2:B4 K S i=S:=by unfold B4;rw[hr];rfl
  rw[hr,hr2];rw[hi] at HH;have H:=aH h;clear h hr hr2 hi;go_enter func219,ntmps219;go_wp2_with fail;refine HH.o.mono ?_;rintro e w' ⟨rfl,rfl⟩;go_wp2;go_ret;exact⟨rfl,H.o,aF⟩
 |true=>
  have hi':0≤i∧i<(K.n:Int):=by unfold aZ at hi;simpa using hi
  obtain⟨th,rfl⟩:=Int.eq_ofNat_of_zero_le hi'.1;have hj:th<K.n:=by omega
  have c8:=h.box.cell (i:=8) rfl;have j0:=h.p0 hj;have l1:(th:Int)<K.n:=by omega
  have hn32:=h.n32;rw[hi] at HH;by_cases hq:S.TS th 0=0
  ·have hr:ah K.n S.TS th 0=true:=by unfold ah;rw[hi,Int.toNat_natCast,hq];rfl
   have hr2:B4 K S th={S with LS:=C1 S.LS (K.nd th) (gj (K.L (K.nd th)) (S.LS (K.nd th)) (K.sl th:Nat)),TS:=ac S.TS th 0 1}:=by unfold B4;rw[hr,if_pos rfl,Int.toNat_natCast]
   rw[hr,hr2];rw[hq] at j0;have HJ:=aH hj;have HV:=aH (h.nd_lt hj);have HOF:=aH (rX h hj);have H:=aH h;clear h hr hr2 hi hi' hq hj;go_enter func219,ntmps219;go_wp2_with fail;refine HH.o.mono ?_;rintro e w' ⟨rfl,rfl⟩;go_wp2_with fail;refine HOF.o.mono ?_;rintro e w1 ⟨rfl,hF⟩;have hWX:ae [] w1 (w1.alloc (.cells #[some (B.fb (K.nd th)),(K.cn (K.nd th):Int)] 203)):=aF.alloc _;have HFW:=aH (hF.trans hWX);have HC:=aH (H.o.same (hF.trans hWX));clear hWX hF;go_wp2_with fail;generalize w1.alloc (.cells #[some (B.fb (K.nd th)),(K.cn (K.nd th):Int)] 203)=W at*;refine(nL ((HC.o.loc _ HV.o)) ((K.sl th:Nat):Int)).mono ?_;rintro e w2 ⟨rfl,hK,hF⟩;have HD:=aH (HC.o.local HV.o (hF.mono aS) hK);have HFD:=aH (hF.mono (S':=CZ B K) (fun z hz=>A9.2 (by
    simp at hz;exact .inr (.inr (.inr (.inr ⟨_,HV.o,hz.symm⟩))))))
   clear hK hF;have k0:=HD.o.p0 HJ.o;have kz:=HD.o.row.frozen;have k8:=HD.o.box.cell (i:=8) rfl;have HE:=aH (HD.o.put th (t:=0) aO 1);have HFE:=aH (HFD.o.set ⟨B.cs,th*4,none⟩ (.int .i64 1) (.inl (A9.2 (.inl rfl))));go_wp2;go_ret;exact⟨rfl,HE.o,(HFW.o.mono aS).trans HFE.o⟩
  ·have hr:ah K.n S.TS th 0=false:=by unfold ah;rw[hi,Int.toNat_natCast];simpa using hq
   have hr2:B4 K S th=S:=by unfold B4;rw[hr];rfl
   rw[hr,hr2];have d1:(S.TS th 0 !=0)=true:=by simpa using hq
   have H:=aH h;generalize S.TS th 0=q at*;clear h hr hr2 hi hi' hq hj;go_enter func219,ntmps219;go_wp2_with fail;refine HH.o.mono ?_;rintro e w' ⟨rfl,rfl⟩;go_wp2;go_ret;exact⟨rfl,H.o,aF⟩
theorem FE (h:AA w B K S) (i:Int):Calls prog 221 #[some B.cb,i] w fun e w'=>e= .returned (.bool (ah K.n S.TS i 10))∧AA w' B K (Am K S i)∧ae (CZ B K) w w':=by
 have HS:=aH (Fw h i);have fd:=dR;cases hq:ah K.n S.TS i 10 with
 |false=>
  have hr2:Am K S i=S:=by unfold Am a8;rw[hq];rfl
  rw[hr2];have hv:∃a b c p:Int,(p !=10)=true∧dq K.n S.TS i= .agg #[p,a,b,c]:=by
   unfold dq;by_cases hh:aZ K.n i=true
   ·rw[if_pos hh];exact⟨_,_,_,_,by unfold ah at hq;rw[hh] at hq;simpa using hq,rfl⟩
   ·rw[if_neg hh];exact⟨0,0,0,0,rfl,rfl⟩
  obtain⟨a,b,c,p,hp,hv⟩:=hv;rw[hv] at HS;have H:=aH h;clear hv h hr2 hq;go_enter func221,ntmps221;go_wp2_with fail;refine HS.o.mono ?_;rintro e w1 ⟨rfl,hF⟩;have HC:=aH (H.o.same hF);have HF:=aH hF;clear hF;go_wp2;go_ret;exact⟨rfl,HC.o,HF.o.mono aS⟩
 |true=>
  have hq':aZ K.n i=true∧S.TS i.toNat 0=10:=by unfold ah at hq;simpa using hq
  have hi':0≤i∧i<(K.n:Int):=by have:=hq'.1;unfold aZ at this;simpa using this
  obtain⟨th,rfl⟩:=Int.eq_ofNat_of_zero_le hi'.1;have hj:th<K.n:=by omega
  have hr2:Am K S th={S with TS:=ac S.TS th 0 11}:=by unfold Am a8;rw[hq,if_pos rfl,Int.toNat_natCast]
  rw[hr2];have hr:dq K.n S.TS th= .agg #[(10:Int),(S.TS th 1:Int),(S.TS th 2:Int),(S.TS th 3:Int)]:=by unfold dq;rw[hq'.1,if_pos rfl,←hq'.2,Int.toNat_natCast]
  rw[hr] at HS;have HJ:=aH hj;have l1:(th:Int)<K.n:=by omega
  have hn32:=h.n32;have H:=aH h;clear h hr hr2 hq hq' hi' hj;go_enter func221,ntmps221;go_wp2_with fail;refine HS.o.mono ?_;rintro e w1 ⟨rfl,hF⟩;have hC:=H.o.same hF;have k0:=hC.p0 HJ.o;have kz:=hC.row.frozen;have k8:=hC.box.cell (i:=8) rfl;have HE:=aH (hC.put th (t:=0) aO 11);have HFE:=aH ((hF.mono (S':=CZ B K) aS).set ⟨B.cs,th*4,none⟩ (.int .i64 11) (.inl (A9.2 (.inl rfl))));clear hC hF;go_wp2;go_ret;exact⟨rfl,HE.o,HFE.o⟩
theorem Iy (h:AA w B K S) (i:Int):Calls prog 220 #[some B.cb,i] w fun e w'=>e= .returned (Fu K S i:Int)∧ae [] w w':=by
 have HS:=aH (Fw h i);unfold Fu;cases hq:ah K.n S.TS i 10 with
 |false=>
  have hv:∃a b c p:Int,(p !=10)=true∧dq K.n S.TS i= .agg #[p,a,b,c]:=by
   unfold dq;by_cases hh:aZ K.n i=true
   ·rw[if_pos hh];exact⟨_,_,_,_,by unfold ah at hq;rw[hh] at hq;simpa using hq,rfl⟩
   ·rw[if_neg hh];exact⟨0,0,0,0,rfl,rfl⟩
  obtain⟨a,b,c,p,hp,hv⟩:=hv;rw[hv] at HS;clear hv h hq;go_enter func220,ntmps220;go_wp2_with fail;refine HS.o.mono ?_;rintro e w1 ⟨rfl,hF⟩;have HF:=aH (hF.alloc (.cells #[p,a,b,c] 138));clear hF;go_wp2;go_ret;exact⟨rfl,HF.o⟩
 |true=>
  have hq':aZ K.n i=true∧S.TS i.toNat 0=10:=by unfold ah at hq;simpa using hq
  have hr:dq K.n S.TS i= .agg #[(10:Int),(S.TS i.toNat 1:Int),(S.TS i.toNat 2:Int),(S.TS i.toNat 3:Int)]:=by unfold dq;rw[hq'.1,if_pos rfl,←hq'.2]
  rw[hr] at HS;generalize S.TS i.toNat 1=x at*;generalize S.TS i.toNat 2=y at*;generalize S.TS i.toNat 3=z at*;clear h hr hq hq';go_enter func220,ntmps220;go_wp2_with fail;refine HS.o.mono ?_;rintro e w1 ⟨rfl,hF⟩;have HF:=aH (hF.alloc (.cells #[(10:Int),x,y,z] 138));clear hF;go_wp2;go_ret;exact⟨rfl,HF.o⟩
end
theorem BW {α:Type} (Q:α→Prop) {c:Prop} {inst:Decidable c} {a b:α} (ha:Q a) (hb:Q b):Q (@ite α c inst a b):=by
 by_cases h:c
 ·rw[if_pos h];exact ha
 ·rw[if_neg h];exact hb
section
variable{n tail:Nat} {S:Nat→Nat→Int} {A:AR}
def Gx (v:Int):Prop:=(0≤v∧v≤5)∨(10≤v∧v≤14)
theorem gq.put (h:gq n S) (j:Nat) {t:Nat} {v:Int} (hv:t=0→Gx v):gq n (ac S j t v):=fun i hi=>by
 unfold ac
 split
 ·rename_i e;exact hv e.2.symm
 ·exact h i hi
theorem wK (h:gq n S) (j:Nat):gq n (Bi tail A S j).2.1∧Gx (Bi tail A S j).2.2:=by
 unfold Bi qZ jk;have hp:∀v,gq n (ac S j 1 v):=fun v=>h.put j aS
 repeat' (refine BW (fun x:AR×(Nat→Nat→Int)×Int=>gq n x.2.1∧Gx x.2.2) ?_ ?_)
 all_goals refine⟨by first|exact h|exact hp _,?_⟩
 all_goals
  dsimp only
  repeat' (refine BW Gx ?_ ?_)
  all_goals(unfold Gx;omega)
theorem gq.turn (h:gq n S) (i a:Int) {b:Int} (hb:Gx b) (m:Nat):gq n (a8 m S i a b):=by
 unfold a8;split
 ·exact h.put _ (fun _=>hb)
 ·exact h
theorem gq.fstep {K:FK} (h:gq K.n S) (hk:K.k=4) (i:Int):gq K.n (bV K S A i):=by
 unfold bV;rw[if_neg aO,if_neg aO,if_neg aO,if_pos hk];unfold j7
 split
 ·have:=wK (tail:=K.b) (A:=A) h i.toNat;exact this.1.put _ (fun _=>this.2)
 ·exact h
theorem gq.fask {K:FK} (h:gq K.n S) (hk:K.k=4) (i:Int):gq K.n (gj K S i):=by
 unfold gj;rw[if_neg aO];exact h.turn i 0 (.inl aO) _
theorem gq.fleave {K:FK} (h:gq K.n S) (i:Int):gq K.n (cQ K S i):=h.turn i 10 (.inr aO) _
end
section
variable{K:CK} {S:CS}
def IL (v:Int):Prop:=(0≤v∧v≤4)∨(10≤v∧v≤16)
structure zp (K:CK) (S:CS) (x:CS×Int):Prop where
 ts:∀t,x.1.TS t 0=S.TS t 0
 pc:IL x.2
 lo:∀v,v<K.E→(K.L v).k=4→gq (K.L v).n (x.1.LS v)
 gl:K.G.k=4→gq K.G.n x.1.GS
theorem Ax.up (h:Ax K S) (u:Nat) {f:Nat→Nat→Int} (hf:u<K.E→(K.L u).k=4→gq (K.L u).n f):∀v,v<K.E→(K.L v).k=4→gq (K.L v).n (C1 S.LS u f v):=fun v hv hk=>by
 unfold C1;by_cases e:v=u
 ·subst e;rw[if_pos rfl];exact hf hv hk
 ·rw[if_neg e];exact h.lo v hv hk
theorem rT (h:Ax K S) (th:Nat):zp K S (Iz K S th):=by
 have l1:∀{f:Nat→Nat→Int},(K.nd th<K.E→(K.L (K.nd th)).k=4→gq (K.L (K.nd th)).n f)→∀v,v<K.E→(K.L v).k=4→gq (K.L v).n (C1 S.LS (K.nd th) f v):=fun hf=>h.up _ hf;have t1:∀v t,ac S.TS th 1 v t 0=S.TS t 0:=fun v t=>by simp[ac]
 have g1:K.G.k=4→gq K.G.n (bV K.G S.GS S.A (K.nd th:Nat)):=fun e=>(h.gl e).fstep e _;have s1:K.nd th<K.E→(K.L (K.nd th)).k=4→gq (K.L (K.nd th)).n (bV (K.L (K.nd th)) (S.LS (K.nd th)) S.A (K.sl th:Nat)):=fun hv e=>(h.lo _ hv e).fstep e _;have s2:K.nd th<K.E→(K.L (K.nd th)).k=4→gq (K.L (K.nd th)).n (cQ (K.L (K.nd th)) (S.LS (K.nd th)) (K.sl th:Nat)):=fun hv e=>(h.lo _ hv e).fleave _;unfold Iz Fv CR
 repeat' (refine BW (zp K S) ?_ ?_)
 all_goals refine⟨?_,?_,?_,?_⟩
 all_goals first
  |exact fun t=>rfl
  |exact t1 _
  |exact h.lo
  |exact h.gl
  |exact g1
  |exact l1 s1
  |exact l1 s2
  |exact fun e=>(h.gl e).fask e _
  |exact fun e=>(h.gl e).fleave _
  |(dsimp only;first|(unfold IL;omega)|(refine BW IL ?_ ?_<;>(unfold IL;omega)))
theorem Ax.step (h:Ax K S) (i:Int):Ax K (AN K S i):=by
 unfold AN
 split
 ·obtain⟨q1,q2,q3,q4⟩:=rT h i.toNat;refine⟨fun t ht=>?_,q3,q4⟩;show(0≤ac _ i.toNat 0 _ t 0∧ac _ i.toNat 0 _ t 0≤4)∨(10≤ac _ i.toNat 0 _ t 0∧ac _ i.toNat 0 _ t 0≤16);unfold ac
  split
  ·exact q2
  ·rw[q1];exact h.th t ht
 ·exact h
theorem Ax.ask (h:Ax K S) (i:Int):Ax K (B4 K S i):=by
 unfold B4
 split
 ·refine⟨fun t ht=>?_,h.up _ (fun hv e=>(h.lo _ hv e).fask e _),h.gl⟩;show(0≤ac S.TS i.toNat 0 1 t 0∧ac S.TS i.toNat 0 1 t 0≤4)∨(10≤ac S.TS i.toNat 0 1 t 0∧ac S.TS i.toNat 0 1 t 0≤16);unfold ac
  split
  ·exact .inl aO
  ·exact h.th t ht
 ·exact h
theorem Ax.leave (h:Ax K S) (i:Int):Ax K (Am K S i):=by
 refine⟨fun t ht=>?_,h.lo,h.gl⟩;show(0≤a8 K.n S.TS i 10 11 t 0∧a8 K.n S.TS i 10 11 t 0≤4)∨(10≤a8 K.n S.TS i 10 11 t 0∧a8 K.n S.TS i 10 11 t 0≤16);unfold a8
 split
 ·unfold ac
  split
  ·exact .inr aO
  ·exact h.th t ht
 ·exact h.th t ht
theorem Ax.ar (h:Ax K S) (A:AR):Ax K {S with A:=A}:=⟨h.th,h.lo,h.gl⟩
end
theorem kO:(prog.info? 203).map (fun i=>(i.zero,i.size,i.bytes))=some (some (.agg #[.pointer none,(0:Int)]),2,16):=by kernel_rfl
def DC (lk par:Nat) (T E:List Int) (v:Nat) (A:AR):FK:=⟨lk,par,A.taken+1,max 1 (T.count (E[v]?.getD 0))⟩
def Cg (lk par:Nat) (T E:List Int) (A:AR):Nat→AR
 | 0=>A
 |v+1=>{(dY (DC lk par T E v (Cg lk par T E A v)) (Cg lk par T E A v)) with taken:=(dY (DC lk par T E v (Cg lk par T E A v)) (Cg lk par T E A v)).taken+1}
def JC (n:Nat) (fb cn:Nat→Nat):List Value:=(List.range (2*n)).map fun j=>if j%2=0 then .pointer (some ⟨fb (j/2),0,none⟩) else .int .i64 (cn (j/2))
theorem JD {n:Nat} {fb cn:Nat→Nat} {v:Nat} (hv:v<n):(JC n fb cn)[v*2]? =some (.pointer (some ⟨fb v,0,none⟩))∧(JC n fb cn)[v*2+1]? =some (.int .i64 (cn v)):=by
 unfold JC;constructor
 ·rw[List.getElem?_map,List.getElem?_range aO];simp only[Option.map_some];rw[show v*2%2=0 by omega,if_pos rfl,show v*2/2=v by omega]
 ·rw[List.getElem?_map,List.getElem?_range aO];simp only[Option.map_some];rw[show(v*2+1)%2=1 by omega,if_neg aO,show(v*2+1)/2=v by omega]
theorem ef (n:Nat) (fb cn fb' cn':Nat→Nat) (h:∀u,u<n→fb' u=fb u∧cn' u=cn u):JC (n+1) fb' cn'=JC n fb cn++[.pointer (some ⟨fb' n,0,none⟩),.int .i64 (cn' n)]:=by
 unfold JC;rw[show 2*(n+1)=2*n+1+1 by omega];simp only[List.range_succ,List.map_append,List.map_cons,List.map_nil,List.append_assoc,List.cons_append,List.nil_append];rw[show 2*n/2=n by omega,show 2*n%2=0 by omega,show(2*n+1)/2=n by omega,show(2*n+1)%2=1 by omega];simp only[if_true,Nat.one_ne_zero,if_false];congr 1;apply List.map_congr_left;intro j hj;have hj':=List.mem_range.1 hj;have:=h (j/2) aO;rw[this.1,this.2]
theorem Cw (w:World) (a b:Value) (T:TypeId):∀(j:Nat) (u:Value),[a,b][j]? =some u→(w.alloc (.cells #[a,b] T)).cell? ((⟨w.heap.size,0,none⟩:Addr).add j)=some u:=by
 intro j u hu;have h:=am.new w #[a,b] T;have e:(⟨w.heap.size,0,none⟩:Addr).add j=⟨w.heap.size,j,none⟩:=by
  unfold Addr.add
  split
  ·rename_i h0;subst h0;rfl
  ·simp
 rw[e];exact h.cell hu
def po (w:World) (Z:List Nat):Prop:=∀z∈Z,∃vs T,am w z vs T∧(T=203∨T=201∨T=136)
theorem po.not {w:World} {Z:List Nat} (h:po w Z) {b:Nat} {vs:List Value} {T:TypeId} (hb:am w b vs T) (h1:T≠203:=by decide) (h2:T≠201:=by decide) (h3:T≠136:=by decide):b∉Z:=by
 intro hm;obtain⟨us,U,hu,ht⟩:=h b hm;refine absurd rfl (hb.differ hu (fun e=>?_));subst e;rcases ht with e|e|e
 ·exact h1 e
 ·exact h2 e
 ·exact h3 e
theorem aj.oth {w w':World} {ab wb:Nat} {A:AR} (h:aj w ab wb A) {Z:List Nat} (hf:ae Z w w') (hz:po w Z):aj w' ab wb A:=h.frm hf (hz.not h.box) (hz.not h.row)
theorem bQ.oth {w w':World} {fb lb sb ab wb:Nat} {A:AR} {S:Nat→Nat→Int} {K:FK} (h:bQ w fb lb sb ab wb A S K) {Z:List Nat} (hf:ae Z w w') (hz:po w Z):bQ w' fb lb sb ab wb A S K:=by
 obtain⟨_,h1⟩:=h.fbox;obtain⟨_,h2⟩:=h.srow;obtain⟨_,T,h3,t1,t2,t3,t4,t5,t6,t7,t8⟩:=h.lbox;exact h.re hf (hz.not h1) (hz.not h3 t6 t5 t7) (hz.not h2) (h.ar.oth hf hz)
theorem IR.oth {w w':World} {g:Nat} {v:Value} {zs:List Int} (h:IR w g v zs) {Z:List Nat} (hf:ae Z w w') (hz:po w Z):IR w' g v zs:=by
 have h0:=h;obtain⟨_,_,_,hh,_⟩:=h;exact h0.frm hf (hz.not hh)
theorem gh.keep {w w':World} {tb:Nat} {P T:List Int} (h:gh w tb P T) {Z:List Nat} (hf:ae Z w w') (hz:po w Z) (ht:tb∉Z):gh w' tb P T:=by
 obtain⟨vp,vt,vup,vnode,vslot,vm,gt,gn,gs,gm,h1,h2,h3,h4,h5⟩:=h;exact⟨vp,vt,vup,vnode,vslot,vm,gt,gn,gs,gm,h1.frm hf ht,h2.oth hf hz,h3.oth hf hz,h4.oth hf hz,h5.oth hf hz⟩
def Cv (f:Nat→Nat) (v x:Nat):Nat→Nat:=fun u=>if u=v then x else f u
def Fo (n:Nat) (B:CB) (K:CK):Prop:=n≤B.cs∧n≤B.gs∧∀u,u<K.E→n≤B.sb u
theorem Fo.mono {n m:Nat} {B:CB} {K:CK} (h:Fo n B K) (hm:m≤n):Fo m B K:=⟨Nat.le_trans hm h.1,Nat.le_trans hm h.2.1,fun u hu=>Nat.le_trans hm (h.2.2 u hu)⟩
structure IH (w:World) (B:CB) (K:CK) (v:Nat) (A:AR) (vn:Value) (B0 bp:Nat):Prop where
 box:am w B.cb [some B.ab,some B.tb,K.gk,K.lk,K.par,K.bud,some B.gf,vn,.slice (some ⟨B.cs,0,none⟩) K.n K.n] 201
 tab:gh w B.tb K.P K.T
 glo:bQ w B.gf B.gl B.gs B.ab B.wb A (iE K.G) K.G
 nod:w.ownsRow B0 203 2 vn v (JC v B.fb K.cn)
 loc:∀u,u<v→bQ w (B.fb u) (B.lb u) (B.sb u) B.ab B.wb A (iE (K.L u)) (K.L u)
 row:am w B.cs (cq K.n fun _ _=>0) 138
 dif:B.cs≠B.gs∧(∀u,u<v→B.sb u≠B.cs∧B.sb u≠B.gs)∧∀a b,a<v→b<v→B.sb a=B.sb b→a=b
 pair:am w bp [K.gk,K.lk,K.par,K.bud] 42
 lt:B.cb<B0
 new:bp≤B.cs+1∧bp≤B.gs+1∧∀u,u<v→bp≤B.sb u+1
section
variable{w w' w1:World} {B:CB} {K:CK} {v B0 bp:Nat} {A A':AR} {vn v':Value}
theorem IH.mutA (h:IH w B K v A vn B0 bp):pj w [B.ab,B.wb]:=by
 intro z hz;simp at hz;rcases hz with e|e
 ·subst e;exact⟨_,_,h.glo.ar.box,.inr (.inl rfl)⟩
 ·subst e;exact⟨_,_,h.glo.ar.row,.inr (.inr rfl)⟩
theorem uV {w w':World} {base size k:Nat} {v:Value} {xs:List Value} (h:w.ownsRow base 203 size v k xs) {S:List Nat} (hf:ae S w w') (hs:pj w S):w'.ownsRow base 203 size v k xs:=by
 refine bk h hf (fun g hg hm=>?_);rcases h.2 with⟨rfl,_⟩|⟨g',cap,cur,rfl,hb,hh,_⟩
 ·simp[Value.ownBlock] at hg
 ·have:g'=g:=Option.some.inj hg;subst this;have hq:am w g' cur.toList 203:=by unfold am;simpa using hh
  exact(hs.not hq) hm
theorem IH.arena (h:IH w B K v A vn B0 bp) (hf:ae [B.ab,B.wb] w w') (hA:aj w' B.ab B.wb A'):IH w' B K v A' vn B0 bp:=by
 have hm:=h.mutA;refine{box:=h.box.frm hf (hm.not h.box),tab:=h.tab.stay hf hm,glo:=?_,nod:=uV h.nod hf hm,loc:=fun u hu=>?_,row:=?_,dif:=h.dif,pair:=h.pair.frm hf (hm.not h.pair),lt:=h.lt,new:=h.new}
 ·have:=h.glo.apart;exact h.glo.re hf (h.glo.fnot hm).1 (h.glo.fnot hm).2 aQ hA
 ·have:=(h.loc u hu).apart;exact(h.loc u hu).re hf ((h.loc u hu).fnot hm).1 ((h.loc u hu).fnot hm).2 aQ hA
 ·exact h.row.frm hf (by have:=h.row.differ h.glo.ar.box aJ;have:=h.row.differ h.glo.ar.row aJ;simp;omega)
theorem IH.same (h:IH w B K v A vn B0 bp) (hf:ae [] w w'):IH w' B K v A vn B0 bp:=h.arena (hf.mono aS) (h.glo.ar.frm hf aS aS)
theorem IH.othV (h:IH w B K v A vn B0 bp):po w (B.cb::vn.ownBlock.toList):=by
 intro z hz;rcases List.mem_cons.1 hz with e|hz
 ·subst e;exact⟨_,_,h.box,.inr (.inl rfl)⟩
 ·have hz':vn.ownBlock=some z:=by simpa using hz
  rcases h.nod.2 with⟨e,_⟩|⟨g',cap,cur,e,hb,hh,_⟩
  ·rw[e] at hz';simp[Value.ownBlock] at hz'
  ·rw[e] at hz';have:g'=z:=Option.some.inj hz';subst this;exact⟨cur.toList,_,by unfold am;simpa using hh,.inl rfl⟩
theorem IH.box_at {o:Obj} (h:IH w B K v A vn B0 bp) (hg:(w.alloc o).grownBy w1 vn.ownBlock):am w1 B.cb [some B.ab,some B.tb,K.gk,K.lk,K.par,K.bud,some B.gf,vn,.slice (some ⟨B.cs,0,none⟩) K.n K.n] 201:=
 h.box.frm (br hg) (fun hm=>by have:=bh h.nod B.cb (by simpa using hm);have:=h.lt;omega)
theorem IH.grow {o:Obj} (h:IH w B K v A vn B0 bp) {f l s:Nat} (hL:bQ w f l s B.ab B.wb A (iE (K.L v)) (K.L v)) (hs:s≠B.cs∧s≠B.gs∧∀u,u<v→s≠B.sb u) (hbp:bp≤s+1)
 (hown:w1.ownsRow B0 203 2 v' (v+1) (JC v B.fb K.cn++[.pointer (some ⟨f,0,none⟩),.int .i64 (K.cn v)])) (hg:(w.alloc o).grownBy w1 vn.ownBlock):
 IH (w1.setCell (B.cb,7) v') {B with fb:=Cv B.fb v f,lb:=Cv B.lb v l,sb:=Cv B.sb v s} K (v+1) A v' B0 bp:=by
 have hf:=br hg;have hst:ae [B.cb] w1 (w1.setCell (B.cb,7) v'):=aU;have hall:ae (B.cb::vn.ownBlock.toList) w (w1.setCell (B.cb,7) v'):=(hf.mono (by intro z hz;exact List.mem_cons_of_mem _ hz)).set _ _ (.inl aS);have ho:=h.othV;have hu:∀u,u<v→Cv B.fb v f u=B.fb u∧Cv B.lb v l u=B.lb u∧Cv B.sb v s u=B.sb u:=fun u hu=>by unfold Cv;rw[if_neg aO,if_neg aO,if_neg aO];exact⟨rfl,rfl,rfl⟩
 have hv:Cv B.fb v f v=f∧Cv B.lb v l v=l∧Cv B.sb v s v=s:=by unfold Cv;simp
 have htb:B.tb∉(B.cb::vn.ownBlock.toList):=by
  have htab:=h.tab;obtain⟨_,_,_,_,_,_,_,_,_,_,h1,_⟩:=htab;intro hm;rcases List.mem_cons.1 hm with e|hm
  ·exact h1.differ h.box aJ e
  ·have hz':vn.ownBlock=some B.tb:=by simpa using hm
   rcases h.nod.2 with⟨e,_⟩|⟨g',cap,cur,e,hb,hh,_⟩
   ·rw[e] at hz';simp[Value.ownBlock] at hz'
   ·rw[e] at hz';have e2:g'=B.tb:=Option.some.inj hz';have hq:am w B.tb cur.toList 203:=by rw[←e2];unfold am;simpa using hh
    exact absurd rfl (h1.differ hq aJ)
 obtain⟨d1,d2,d3⟩:=h.dif;refine{box:=(h.box_at hg).set 7 v',tab:=h.tab.keep hall ho htb,glo:=h.glo.oth hall ho,nod:=?_,loc:=fun u hu'=>?_,row:=h.row.frm hall (ho.not h.row),dif:=⟨d1,fun u hu'=>?_,fun a b ha hb e=>?_⟩,pair:=h.pair.frm hall (ho.not h.pair),lt:=h.lt,new:=⟨h.new.1,h.new.2.1,fun u hu'=>?_⟩}
 ·have:=bk hown hst (fun g hgg hm=>by have:=(bh hown g hgg).1;have:=h.lt;simp at hm;omega);rw[ef v B.fb K.cn (Cv B.fb v f) K.cn (fun u hu'=>⟨(hu u hu').1,rfl⟩),hv.1];exact this
 ·show bQ _ (Cv B.fb v f u) (Cv B.lb v l u) (Cv B.sb v s u) _ _ _ _ _;by_cases e:u=v
  ·subst e;rw[hv.1,hv.2.1,hv.2.2];exact hL.oth hall ho
  ·rw[(hu u aO).1,(hu u aO).2.1,(hu u aO).2.2];exact(h.loc u aO).oth hall ho
 ·show Cv B.sb v s u≠_∧Cv B.sb v s u≠_;by_cases e:u=v
  ·subst e;rw[hv.2.2];exact⟨hs.1,hs.2.1⟩
  ·rw[(hu u aO).2.2];exact d2 u aO
 ·have e':Cv B.sb v s a=Cv B.sb v s b:=e;by_cases ea:a=v
  ·by_cases eb:b=v
   ·omega
   ·subst ea;rw[hv.2.2,(hu b aO).2.2] at e';exact absurd e' (hs.2.2 b aO)
  ·by_cases eb:b=v
   ·subst eb;rw[hv.2.2,(hu a aO).2.2] at e';exact absurd e'.symm (hs.2.2 a aO)
   ·rw[(hu a aO).2.2,(hu b aO).2.2] at e';exact d3 a b aO aO e'
 ·show bp≤Cv B.sb v s u+1;by_cases e:u=v
  ·subst e;rw[hv.2.2];exact hbp
  ·rw[(hu u aO).2.2];exact h.new.2.2 u aO
theorem IH.done (h:IH w B K K.E A vn B0 bp) (hE:1≤K.E) (hs:du K.P K.T):∃nb cap,AA w {B with nb:=nb,ncap:=cap} K ⟨A,iE K.G,fun u=>iE (K.L u),fun _ _=>0⟩:=by
 rcases h.nod.2 with⟨_,e⟩|⟨g,cap,cur,hv,hb,hh,hk,hc1,hc2,htk⟩
 ·omega
 ·subst hv;refine⟨g,cap,{box:=h.box,tab:=h.tab,glo:=h.glo,nod:=⟨cur.toList,by unfold am;simpa using hh,fun v hv=>?_⟩,loc:=h.loc,row:=h.row,dif:=h.dif,ok:=hs}⟩;have h1:=(JD (fb:=B.fb) (cn:=K.cn) hv).1;have h2:=(JD (fb:=B.fb) (cn:=K.cn) hv).2;rw[←htk] at h1 h2;rw[List.getElem?_take_of_lt aO] at h1 h2;exact⟨h1,h2⟩
end
def Hh (P T:List Int) (gk lk par bud:Nat) (A:AR):CK where
 P:=P
 T:=T
 G:=⟨gk,par,A.taken+1,(tE P).length⟩
 L:=fun u=>DC lk par T (tE P) u (Cg lk par T (tE P) (dY ⟨gk,par,A.taken+1,(tE P).length⟩ A) u)
 cn:=fun u=>(dY (DC lk par T (tE P) u (Cg lk par T (tE P) (dY ⟨gk,par,A.taken+1,(tE P).length⟩ A) u)) (Cg lk par T (tE P) (dY ⟨gk,par,A.taken+1,(tE P).length⟩ A) u)).taken+1
 gk:=gk
 lk:=lk
 par:=par
 bud:=bud
structure Bu (P T:List Int) (gk lk par bud:Nat) (A:AR):Prop where
 ok:du P T
 g1:1≤gk
 g5:gk≤5
 l1:1≤lk
 l5:lk≤5
 p1:1≤par
 p32:par≤32
 b:bud≤1000
 az:AZ A
 fit:A.Fit
 ops:A.ops≤1000
 room:A.taken+65+66*(tE P).length≤A.ws.length
section
variable{P T:List Int} {gk lk par bud:Nat} {A:AR}
theorem Bu.ne (h:Bu P T gk lk par bud A):1≤(tE P).length∧(tE P).length≤32:=by
 have hs:=h.ok.size;obtain⟨s1,s2,s3,s4⟩:=hs;have hle:=iJ P;refine⟨?_,by omega⟩;have hx:T[0]?.getD 0∈T:=by
  rw[List.getElem?_eq_getElem aO];exact List.getElem_mem aO
 have:=List.length_pos_of_mem (j8 h.ok hx);omega
theorem Ih {K:FK} (h:K.Ok):1≤K.size∧K.size≤65:=by
 have:=h.n1;have:=h.n32;have:=h.p1;have:=h.p32;rcases h.five with e|e|e|e|e
 ·rw[D0 e];omega
 ·rw[EY e];omega
 ·rw[Dp e];omega
 ·rw[Eh e];omega
 ·rw[Dv e];omega
theorem Bu.gOk (h:Bu P T gk lk par bud A):(Hh P T gk lk par bud A).G.Ok:=
 ⟨h.g1,h.g5,Nat.le_add_left _ _,h.ne.1,h.ne.2,h.p1,h.p32⟩
theorem Bu.lOk (h:Bu P T gk lk par bud A) (v:Nat) (B:AR):(DC lk par T (tE P) v B).Ok:=by
 obtain⟨s1,s2,s3,s4⟩:=h.ok.size;have:=List.count_le_length (a:=(tE P)[v]?.getD 0) (l:=T);exact⟨h.l1,h.l5,Nat.le_add_left _ _,Nat.le_max_left _ _,by show max 1 _≤32;omega,h.p1,h.p32⟩
structure Iq (A0 B:AR) (v:Nat):Prop where
 az:AZ B
 fit:B.Fit
 len:B.ws.length=A0.ws.length
 t1:A0.taken+1≤B.taken
 t2:B.taken≤A0.taken+65+66*v
 o1:A0.ops≤B.ops
 o2:B.ops≤A0.ops+1+v
theorem Bu.glob (h:Bu P T gk lk par bud A):(zN (Hh P T gk lk par bud A).G A (dY (Hh P T gk lk par bud A).G A)∧FI (Hh P T gk lk par bud A).G (iE (Hh P T gk lk par bud A).G) (dY (Hh P T gk lk par bud A).G A))∧Iq A (dY (Hh P T gk lk par bud A).G A) 0:=by
 have hsz:=Ih h.gOk;have hr:=h.room;have hf:=h.fit;have ho:=h.ops;obtain⟨f1,f2,f3,f4⟩:=hf;have hg:=oN (K:=(Hh P T gk lk par bud A).G) (A:=A) h.gOk rfl aO h.az h.fit;refine⟨hg,?_⟩;obtain⟨g,_⟩:=hg;have gt:=g.taken;have gl:=g.len;have go:=g.ops;exact⟨g.az,⟨by omega,by omega,by omega,by omega⟩,gl,by omega,by omega,by omega,by omega⟩
theorem Bu.step (h:Bu P T gk lk par bud A) {v:Nat} (hv:v<(tE P).length) {B:AR} (hB:Iq A B v):
 (zN (DC lk par T (tE P) v B) B (dY (DC lk par T (tE P) v B) B)∧FI (DC lk par T (tE P) v B) (iE (DC lk par T (tE P) v B)) (dY (DC lk par T (tE P) v B) B))∧B.taken+(DC lk par T (tE P) v B).size+1≤B.ws.length∧Iq A {(dY (DC lk par T (tE P) v B) B) with taken:=(dY (DC lk par T (tE P) v B) B).taken+1} (v+1):=by
 have hok:=h.lOk v B;have hsz:=Ih hok;have hr:=h.room;have ho:=h.ops;have bt:=hB.t2;have bl:=hB.len;have b1:=hB.t1;have bo:=hB.o1;have bo2:=hB.o2;obtain⟨f1,f2,f3,f4⟩:=hB.fit;have hroom:B.taken+(DC lk par T (tE P) v B).size+1≤B.ws.length:=by omega
 have hg:=oN (K:=DC lk par T (tE P) v B) (A:=B) hok rfl aO hB.az hB.fit;refine⟨hg,hroom,?_⟩;obtain⟨g,_⟩:=hg;have gt:=g.taken;have gl:=g.len;have go:=g.ops;have ga:=g.az;generalize dY (DC lk par T (tE P) v B) B=C at*;obtain⟨f1',f2',f3',f4'⟩:=h.fit;exact⟨fun k hk=>ga k (by have:C.taken+1≤k:=hk;omega),⟨by show C.taken+1≤C.ws.length;omega,by show C.ws.length≤4096;omega,by show 0≤C.ops;omega,by show C.ops≤1000000000;have:=h.ne.2;omega⟩,by show C.ws.length=_;omega,by show _≤C.taken+1;omega,by show C.taken+1≤_;omega,by show _≤C.ops;omega,by show C.ops≤_;omega⟩
theorem Bu.ars (h:Bu P T gk lk par bud A):∀v,v≤(tE P).length→Iq A (Cg lk par T (tE P) (dY (Hh P T gk lk par bud A).G A) v) v
 | 0,_=>h.glob.2
 |v+1,hv=>(h.step (v:=v) aO (Bu.ars h v aO)).2.2
end
structure pi (K:CK) (Av:Nat→AR) (A:AR):Prop where
 ok:du K.P K.T
 bud:0≤K.bud∧K.bud≤1000
 gk:(K.G.k:Int)=K.gk
 gp:(K.G.p:Int)=K.par
 gn:K.G.n=(tE K.P).length
 gOk:K.G.Ok
 gb:K.G.b=A.taken+1
 gr:A.taken+K.G.size≤A.ws.length
 a0:Av 0=dY K.G A
 lk:∀v,v<(tE K.P).length→((K.L v).k:Int)=K.lk
 lp:∀v,v<(tE K.P).length→((K.L v).p:Int)=K.par
 ln:∀v,v<(tE K.P).length→(K.L v).n=max 1 (K.T.count ((tE K.P)[v]?.getD 0))
 lOk:∀v,v<(tE K.P).length→(K.L v).Ok
 lb:∀v,v<(tE K.P).length→(K.L v).b=(Av v).taken+1
 lr:∀v,v<(tE K.P).length→(Av v).taken+(K.L v).size≤(Av v).ws.length
 t0:∀v,v<(tE K.P).length→(dY (K.L v) (Av v)).takeE 1=0
 t1:∀v,v<(tE K.P).length→(dY (K.L v) (Av v)).takeN 1=((K.cn v:Nat):Int)
 t2:∀v,v<(tE K.P).length→(dY (K.L v) (Av v)).take 1=Av (v+1)
theorem Bu.sch {P T:List Int} {gk lk par bud:Nat} {A:AR} (h:Bu P T gk lk par bud A):pi (Hh P T gk lk par bud A) (fun v=>Cg lk par T (tE P) (dY (Hh P T gk lk par bud A).G A) v) A:=by
 have hsz:=Ih h.gOk;have hr:=h.room;have key:∀v B,v<(tE P).length→Iq A B v→(dY (DC lk par T (tE P) v B) B).taken+1≤(dY (DC lk par T (tE P) v B) B).ws.length:=by
  intro v B hv hB;obtain⟨⟨g,_⟩,g3,_⟩:=h.step hv hB;have g1:=g.taken;have g2:=g.len;omega
 have hrm:∀v,v<(tE P).length→(dY ((Hh P T gk lk par bud A).L v) (Cg lk par T (tE P) (dY (Hh P T gk lk par bud A).G A) v)).taken+1≤(dY ((Hh P T gk lk par bud A).L v) (Cg lk par T (tE P) (dY (Hh P T gk lk par bud A).G A) v)).ws.length:=fun v hv=>key v _ hv (h.ars v (Nat.le_of_lt hv));have he:∀v,v<(tE P).length→(dY ((Hh P T gk lk par bud A).L v) (Cg lk par T (tE P) (dY (Hh P T gk lk par bud A).G A) v)).takeE 1=0:=fun v hv=>io (m:=1) (hrm v hv) rfl;refine{ok:=h.ok,bud:=⟨Int.natCast_nonneg _,by have:=h.b;show((bud:Nat):Int)≤1000;omega⟩,gk:=rfl,gp:=rfl,gn:=rfl,gOk:=h.gOk,gb:=rfl,gr:=by omega,a0:=rfl,lk:=fun _ _=>rfl,lp:=fun _ _=>rfl,ln:=fun _ _=>rfl,lOk:=fun v _=>h.lOk v _,lb:=fun _ _=>rfl,lr:=fun v hv=>Nat.le_of_succ_le (h.step hv (h.ars v (by exact Nat.le_of_lt hv))).2.1,t0:=he,t1:=fun v hv=>?_,t2:=fun v hv=>?_}
 ·unfold AR.takeN;rw[if_pos (he v hv)];rfl
 ·exact f9 (m:=1) (hrm v hv) rfl
section
variable{w:World} {b1 b2 ab wb:Nat} {v u:Value} {A:AR}
theorem J0 {K:CK} {Av:Nat→AR} (hx:a7 w b1 v K.P) (hy:a7 w b2 u K.T) (h:pi K Av A) (hA:aj w ab wb A):
 Calls prog 72 #[some ab,.agg #[v,u],.agg #[K.gk,K.lk,K.par,K.bud]] w fun e w'=>∃B:CB,e= .returned (.tuple #[some B.cb,(0:Int)])∧(B.ab=ab∧B.wb=wb∧Fo w.heap.size B K)∧AA w' B K ⟨Av (tE K.P).length,iE K.G,fun v=>iE (K.L v),fun _ _=>0⟩∧ae [ab,wb] w w':=by
 have hs:=h.ok;have hbud:=h.bud;have HCA:=aH h;obtain⟨s1,s2,s3,s4⟩:=hs.size;have hEl:=iJ K.P;have mk:=dZ K.T.length aO;obtain⟨i0,ia,ib,ic,id_⟩:=info_parts kO;have HIN:=aH (And.intro ia (And.intro ib (And.intro ic id_)));have HPN:=aH (fun(W:World) (hf:ae [] w W)=>eH (hx.frm hf aS) (hy.frm hf aS) hs);have HBR:=aH (fun(W:World)=>Ce K.bud W);have hbr:(decide ((0:Int)≤K.bud)&&decide (K.bud≤1000))=true:=by simp;omega
 rw[hbr] at HBR;have HF0:=aH (((ae.refl [] w).alloc (.cells #[v,u] 24)).alloc (.cells #[K.gk,K.lk,K.par,K.bud] 42));have hbp:=am.new (w.alloc (.cells #[v,u] 24)) #[K.gk,K.lk,K.par,K.bud] 42;rw[World.size_alloc] at hbp;have HBP:=aH hbp;clear hbp;have hnot:= @aX prog;have HAR:=aH hA;have HOK:=aH hs;have hablt:=hA.box.lt;have hwblt:=hA.row.lt;obtain⟨a1,cap1,rfl, -, -⟩:=hx;obtain⟨a2,cap2,rfl, -, -⟩:=hy;clear hbr ia ib ic id_ hA hs h;go_enter func72,ntmps72;go_wp2_with fail;refine(HPN.o _ HF0.o).mono ?_;rintro e w1 ⟨tb,rfl,htb,hTb,hF⟩;have HF1:=aH (HF0.o.trans hF);have HT1:=aH hTb;have hbp1:=HBP.o.frm hF aS;have p0:=hbp1.cell (i:=0) rfl;have p1:=hbp1.cell (i:=1) rfl;have p2:=hbp1.cell (i:=2) rfl;have p3:=hbp1.cell (i:=3) rfl;have HBP1:=aH hbp1;clear hF hTb hbp1;go_wp2_with fail;refine(HBR.o _).mono ?_;rintro e w' ⟨rfl,rfl⟩;have hne:=aW [] w1;have hz0:∀q:HW (fun wx=>ae [] w1 wx),q.w.cell? (w.heap.size+1,0)=some (.int .i64 K.gk):=fun q=>(HBP1.o.frm q.h aS).cell (i:=0) rfl;have hz1:∀q:HW (fun wx=>ae [] w1 wx),q.w.cell? (w.heap.size+1,1)=some (.int .i64 K.lk):=fun q=>(HBP1.o.frm q.h aS).cell (i:=1) rfl;have hz2:∀q:HW (fun wx=>ae [] w1 wx),q.w.cell? (w.heap.size+1,2)=some (.int .i64 K.par):=fun q=>(HBP1.o.frm q.h aS).cell (i:=2) rfl;have hz3:∀q:HW (fun wx=>ae [] w1 wx),q.w.cell? (w.heap.size+1,3)=some (.int .i64 K.bud):=fun q=>(HBP1.o.frm q.h aS).cell (i:=3) rfl;go_wp2_with fail;refine aG (fun wx=>ae [] w1 wx) ?_;refine aR (fuel:=5) [0,1,2,3] rfl aF.drew1 ?_;intro Kq hK;repeat (go_big_quiet_step (fail))
 refine wpQuiet_nil (hK _ ?_);clear hK Kq;refine aL 4 (fuel:=4) rfl ?_;go_wp2_with fail;refine(fS (HT1.o.stay (Z:=[]) (aF.drew1) (pj.nil _))).mono ?_;rintro e w' ⟨rfl,rfl⟩;go_wp2_with fail;refine af ⟨aF.drew1,?_⟩;refine aL 5 (fuel:=3) rfl ?_;go_wp2_with fail;refine af ⟨?_,?_⟩
 ·repeat (first|exact aF|apply ae.drew1|apply ae.alloc)
 refine aR (fuel:=2) [6] rfl aA ?_;intro Kq hK;repeat (go_big_quiet_step (fail))
 refine wpQuiet_nil (hK _ ?_);clear hK Kq;refine aL 7 (fuel:=1) rfl ?_;go_wp2_with fail;refine af ⟨aA,?_⟩;refine aR (fuel:=0) [8] rfl aA ?_;intro Kq hK;repeat (go_big_quiet_step (fail))
 refine wpQuiet_nil (hK _ ?_);clear hK Kq;refine aN ?_;have hcs:=((am.new w1 (cq K.T.length fun _ _=>0).toArray 138).alloc (.cells #[some ab,some tb,K.gk,K.lk,K.par,K.bud,.pointer none,.slice none 0 0,.slice (some ⟨w1.heap.size,0,none⟩) K.T.length K.T.length] 201)).drew1;have hcb:=(am.new (w1.alloc (.cells (cq K.T.length fun _ _=>0).toArray 138)) #[some ab,some tb,K.gk,K.lk,K.par,K.bud,.pointer none,.slice none 0 0,.slice (some ⟨w1.heap.size,0,none⟩) K.T.length K.T.length] 201).drew1;rw[World.size_alloc] at hcb;have hF2:ae [] w1 (((w1.alloc (.cells (cq K.T.length fun _ _=>0).toArray 138)).alloc (.cells #[some ab,some tb,K.gk,K.lk,K.par,K.bud,.pointer none,.slice none 0 0,.slice (some ⟨w1.heap.size,0,none⟩) K.T.length K.T.length] 201)).drew):=(aF.alloc _).alloc _ |>.drew1
 have hsz2:(((w1.alloc (.cells (cq K.T.length fun _ _=>0).toArray 138)).alloc (.cells #[some ab,some tb,K.gk,K.lk,K.par,K.bud,.pointer none,.slice none 0 0,.slice (some ⟨w1.heap.size,0,none⟩) K.T.length K.T.length] 201)).drew).heap.size=w1.heap.size+2:=by show(World.alloc _ _).heap.size=_;rw[World.size_alloc,World.size_alloc]
 have HX2:=aH (And.intro hcs (And.intro hcb (And.intro hF2 hsz2)));have hsz1:=HF1.o.size;clear hcs hcb hF2 hsz2 hne hz0 hz1 hz2 hz3 p0 p1 p2 p3;generalize((w1.alloc (.cells (cq K.T.length fun _ _=>0).toArray 138)).alloc (.cells #[some ab,some tb,K.gk,K.lk,K.par,K.bud,.pointer none,.slice none 0 0,.slice (some ⟨w1.heap.size,0,none⟩) K.T.length K.T.length] 201)).drew=W2 at*;obtain⟨cs,hcs⟩:∃cs,cs=w1.heap.size:=⟨_,rfl⟩
 obtain⟨cb,hcb⟩:∃cb,cb=w1.heap.size+1:=⟨_,rfl⟩
 rw[←hcb,←hcs] at HX2;rw[←hcb,←hcs];have hcc:w.heap.size≤cs∧w.heap.size≤cb∧cs<W2.heap.size∧cb<W2.heap.size∧cs<cb:=by have:=HX2.o.2.2.2;omega
 clear hcs hcb;have HBP2:=aH (HBP1.o.frm HX2.o.2.2.1 aS);have HT2:=aH (HT1.o.stay HX2.o.2.2.1 (pj.nil _));have HA2:=aH (HAR.o.frm (S:=[]) (HF1.o.trans HX2.o.2.2.1) aS aS);have HFA:=aH (HF1.o.trans HX2.o.2.2.1);have hntb:tb≠ab∧tb≠wb∧tb≠cb∧w.heap.size+1≠tb∧w.heap.size+1≠cb:=by
  obtain⟨_,_,_,_,h1,_⟩:=HT2.o;exact⟨h1.differ HA2.o.box aJ,h1.differ HA2.o.row aJ,h1.differ HX2.o.2.1 aJ,HBP2.o.differ h1 aJ,HBP2.o.differ HX2.o.2.1 aJ⟩
 have HNT:=aH hntb;have hpn:w.heap.size+1∉[tb,ab,wb,cb]:=by have:=HNT.o;simp;omega
 have hne:=aW [tb,ab,wb,cb] W2;have hz0:∀q:HW (fun wx=>ae [tb,ab,wb,cb] W2 wx),q.w.cell? (w.heap.size+1,0)=some (.int .i64 K.gk):=fun q=>(HBP2.o.frm q.h hpn).cell (i:=0) rfl;have hz2:∀q:HW (fun wx=>ae [tb,ab,wb,cb] W2 wx),q.w.cell? (w.heap.size+1,2)=some (.int .i64 K.par):=fun q=>(HBP2.o.frm q.h hpn).cell (i:=2) rfl;clear hntb;go_wp2_with fail;refine aG (fun wx=>ae [tb,ab,wb,cb] W2 wx) ?_;refine aR (fuel:=9) [0,1,2,3,4,6,7] rfl aF.drew1 ?_;intro Kq hK;repeat (go_big_quiet_step (fail))
 refine wpQuiet_nil (hK _ ?_);clear hK Kq;refine aL 5 (fuel:=8) rfl ?_;go_wp2_with fail;refine(nI (HT2.o.stay (Z:=[]) (aF.drew1) (pj.nil _)) HOK.o).mono ?_;rintro e w3 ⟨rfl,hT3,hF⟩;have HF3:=aH (((ae.refl [tb] W2).drew1).trans hF);have HT3:=aH hT3;have HA3:=aH (HA2.o.frm HF3.o (by have:=HNT.o;simp;omega) (by have:=HNT.o;simp;omega));clear hF hT3;go_wp2_with fail;refine af ⟨HF3.o.mono aS,?_⟩;refine aL 8 (fuel:=7) rfl ?_;go_wp2_with fail;have hfn:=qk HA3.o K.G HCA.o.gOk HCA.o.gb HCA.o.gr;rw[HCA.o.gk,HCA.o.gp,HCA.o.gn] at hfn;refine hfn.mono ?_;clear hfn;rintro e w4 ⟨gf,gl,gs,rfl,hgf,hgl,hgs,hG,hF⟩;have HG4:=aH hG;have HF4:=aH hF;have HT4:=aH (HT3.o.stay (Z:=[ab,wb]) hF (by
  intro z hz;simp at hz;rcases hz with e|e
  ·subst e;exact⟨_,_,HA3.o.box,.inr (.inl rfl)⟩
  ·subst e;exact⟨_,_,HA3.o.row,.inr (.inr rfl)⟩))
 have hcba:cb≠ab∧cb≠wb:=⟨HX2.o.2.1.differ HA2.o.box aJ,HX2.o.2.1.differ HA2.o.row aJ⟩
 have hcb4:=(HX2.o.2.1.frm HF3.o (by have:=HNT.o;simp;omega)).frm hF aQ;have c6:=hcb4.cell (i:=6) rfl;have cz:=hcb4.frozen;have HCB4:=aH hcb4;clear hG hF hcb4;go_wp2_with fail;refine af ⟨(HF3.o.mono aS).trans (HF4.o.mono aS),?_⟩;refine aR (fuel:=2) [9,10,11,12,13] rfl ((HF3.o.mono aS).trans (HF4.o.mono aS)) ?_;intro Kq hK;repeat (go_big_quiet_step (fail))
 refine wpQuiet_nil (hK _ ?_);clear hK Kq;refine aL 14 (fuel:=1) rfl ?_;go_wp2_with fail;refine af ⟨((HF3.o.mono aS).trans (HF4.o.mono aS)).set _ _ (.inl aS),?_⟩;refine aR (fuel:=0) [15] rfl (((HF3.o.mono aS).trans (HF4.o.mono aS)).set _ _ (.inl aS)) ?_;intro Kq hK;repeat (go_big_quiet_step (fail))
 refine wpQuiet_nil (hK _ ?_);clear hK Kq;refine aN ?_;have hst:ae [cb] w4 (w4.setCell (cb,6) (.pointer (some ⟨gf,0,none⟩))):=aU;have hoth:po w4 [cb]:=fun z hz=>by
  simp at hz;subst hz;exact⟨_,_,HCB4.o,.inr (.inl rfl)⟩
 have hszz:=HF3.o.size;have hszz4:=HF4.o.size;have htb0:w.heap.size≤tb:=by have:=HF0.o.size;omega
 have hfr34:ae [ab,wb] w w4:=((HFA.o.mono (S':=[ab,wb]) aS).widen HF3.o (fun z hz=>.inr (by simp at hz;omega))).trans HF4.o;have hcs4:=(HX2.o.1.frm HF3.o (by have:=HX2.o.1.differ HBP2.o aJ;obtain⟨_,_,_,_,h1,_⟩:=HT2.o;have:=HX2.o.1.differ h1 aJ;simp;omega)).frm HF4.o (by have:=HX2.o.1.differ HA2.o.box aJ;have:=HX2.o.1.differ HA2.o.row aJ;simp;omega);have hpr4:=(HBP2.o.frm HF3.o (by have:=HNT.o;simp;omega)).frm HF4.o (by have:=HBP2.o.differ HA2.o.box aJ;have:=HBP2.o.differ HA2.o.row aJ;simp;omega);have hN:IH (w4.setCell (cb,6) (.pointer (some ⟨gf,0,none⟩))) ⟨cb,tb,gf,gl,gs,ab,wb,cs,0,0,fun _=>0,fun _=>0,fun _=>0⟩ K 0 (Av 0) (.slice none 0 0) (w4.setCell (cb,6) (.pointer (some ⟨gf,0,none⟩))).heap.size (w.heap.size+1):=
  {box:=HCB4.o.set 6 _,tab:=HT4.o.keep hst hoth (by have:=HNT.o;simp;omega),glo:=by rw[HCA.o.a0];exact HG4.o.oth hst hoth,nod:=World.ownsRow_nil _ _ _ _,loc:=fun u hu=>by omega,row:=hcs4.frm hst (hoth.not hcs4),dif:=⟨by show cs≠gs;omega,fun u hu=>by omega,fun a b ha=>by omega⟩,pair:=hpr4.frm hst (hoth.not hpr4),lt:=by show cb<(World.setCell _ _ _).heap.size;simp[World.setCell];omega,new:=⟨by show _≤cs+1;omega,by show _≤gs+1;omega,fun u hu=>by omega⟩}
 have hfr5:ae [ab,wb] w (w4.setCell (cb,6) (.pointer (some ⟨gf,0,none⟩))):=hfr34.set _ _ (.inr (by show w.heap.size≤cb;omega));have HN5:=aH hN;have HF5:=aH hfr5;have hw5:w.heap.size+1<(w4.setCell (cb,6) (.pointer (some ⟨gf,0,none⟩))).heap.size:=by simp[World.setCell];omega
 clear hst hoth hfr34 hcs4 hpr4 hN hfr5 c6 cz hne hz0 hz2;generalize w4.setCell (cb,6) (.pointer (some ⟨gf,0,none⟩))=W5 at*;clear HCB4 HT4 HG4 HF4 HT3 HA3 HF3 HBP2 HT2 HX2 HA2;go_wp2_with fail;refine(gE (P:=K.P) (T:=K.T) HN5.o.tab).mono ?_;rintro e w' ⟨rfl,rfl⟩;obtain⟨E,hE⟩:∃E,E=(tE K.P).length:=⟨_,rfl⟩
 have hE32:E≤32:=by omega
 have HEE:=aH hE;clear hE;go_wp2_with fail;go_loopw[56] (fun iv wr=>∃(v:Nat) (fb lb sb:Nat→Nat) (vn:Value),iv= .int .i64 v∧v≤(tE K.P).length∧W5.heap.size≤wr.heap.size∧IH wr ⟨cb,tb,gf,gl,gs,ab,wb,cs,0,0,fb,lb,sb⟩ K v (Av v) vn W5.heap.size (w.heap.size+1)∧ae [ab,wb] w wr) (fun iv _=>(tE K.P).length - (intOf iv).toNat)
 case atStart=>exact⟨0,_,_,_,_,rfl,Nat.zero_le _,Nat.le_refl _,HN5.o,HF5.o⟩
 case round=>
  obtain⟨v,fb,lb,sb,vn,rfl,hv,hsW,hN,hF⟩:=hrel;have HN:=aH hN;have HF:=aH hF;have hszr:=hF.size;clear hN hF;by_cases hlt:v<(tE K.P).length
  ·have l1:(v:Int)<(tE K.P).length:=by omega
   have hpa:w.heap.size+1∉[ab,wb]:=by
    have:=HN.o.pair.differ HN.o.glo.ar.box aJ;have:=HN.o.pair.differ HN.o.glo.ar.row aJ;simp;omega
   have hne:=aW [ab,wb] wr;have hz1:∀q:HW (fun wx=>ae [ab,wb] wr wx),q.w.cell? (w.heap.size+1,1)=some (.int .i64 K.lk):=fun q=>(HN.o.pair.frm q.h hpa).cell (i:=1) rfl;have hz2:∀q:HW (fun wx=>ae [ab,wb] wr wx),q.w.cell? (w.heap.size+1,2)=some (.int .i64 K.par):=fun q=>(HN.o.pair.frm q.h hpa).cell (i:=2) rfl;go_wp2_with fail;refine aG (fun wx=>ae [ab,wb] wr wx) ?_;refine aR (fuel:=8) [0,1,2,3,4,7,8] rfl aF.drew1 ?_;intro Kq hK;repeat (go_big_quiet_step (fail))
   refine wpQuiet_nil (hK _ ?_);clear hK Kq;refine aL 5 (fuel:=7) rfl ?_;go_wp2_with fail;refine(rc (P:=K.P) (T:=K.T) ((HN.o.same ((ae.refl [] wr).drew1)).tab) hlt).mono ?_;rintro e w' ⟨rfl,rfl⟩;obtain⟨c,hc⟩:∃c,c=K.T.count ((tE K.P)[v]?.getD 0):=⟨_,rfl⟩
   rw[←hc];have HC:=aH hc;clear hc;go_wp2_with fail;refine af ⟨aF.drew1,?_⟩;refine aR (fuel:=6) [6] rfl aF.drew1 ?_;intro Kq hK;repeat (go_big_quiet_step (fail))
   refine wpQuiet_nil (hK _ ?_);clear hK Kq;have hFN:=qk ((HN.o.same ((ae.refl [] wr).drew1)).glo.ar) (K.L v) (HCA.o.lOk v hlt) (HCA.o.lb v hlt) (HCA.o.lr v hlt);have hmc:((K.L v).n:Int)=if c≤1 then 1 else(c:Int):=by
    rw[HCA.o.ln v hlt,←HC.o]
    split<;>omega
   generalize hm:((K.L v).n:Int)=m at hFN hmc;clear hm;rw[HCA.o.lk v hlt,HCA.o.lp v hlt] at hFN;have HFN:=aH hFN;have HMC:=aH hmc;clear hFN hmc;refine aL 9 (fuel:=5) rfl ?_;go_wp2_with fail;all_goals
    have hmc:=HMC.o;first
     |(have e:m=(c:Int):=(by rw[hmc,if_neg aO]);rw[e] at HFN)
     |(have e:m=1:=(by rw[hmc,if_pos aO]);rw[e] at HFN)
    clear hmc HMC;refine HFN.o.mono ?_;rintro e w2 ⟨f,l,s,rfl,hf,hl,hs',hL,hF2⟩;have HF2:=aH (((ae.refl [ab,wb] wr).drew1).trans hF2);have HN2:=aH ((HN.o.same ((ae.refl [] wr).drew1)).arena hF2 hL.ar);have hT:=cY hL.ar 1;rw[HCA.o.t0 v hlt,HCA.o.t1 v hlt,HCA.o.t2 v hlt] at hT;have HT:=aH hT;have HL2:=aH hL;have hsn:s≠cs∧s≠gs∧∀u,u<v→s≠sb u:=by
     have q1:=HN.o.row.lt;obtain⟨_,q2⟩:=HN.o.glo.srow;have q3:=q2.lt;have q1':cs<wr.heap.size:=q1;have q3':gs<wr.heap.size:=q3;have hs2:wr.heap.size≤s:=hs';refine⟨by omega,by omega,fun u hu=>?_⟩;obtain⟨_,q4⟩:=(HN.o.loc u hu).srow;have q5:sb u<wr.heap.size:=q4.lt;omega
    have HSN:=aH hsn;have hbps:w.heap.size+1≤s+1:=by
     have hs2:wr.heap.size≤s:=hs';have:=HF.o.size;omega
    have HBPS:=aH hbps;have hszr2:=HF2.o.size;clear hF2 hL hT hsn hbps hz1 hz2 hpa hf hl hs';go_wp2_with fail;refine af ⟨HF2.o,?_⟩;refine aR (fuel:=0) [10,11,12,13,14] rfl HF2.o ?_;intro Kq hK;repeat (go_big_quiet_step (fail))
    refine wpQuiet_nil (hK _ ?_);clear hK Kq;refine aN ?_;clear hne;go_wp2_with fail;refine HT.o.mono ?_;rintro e w3 ⟨rfl,hA3,hF3⟩;have HN3:=aH (HN2.o.arena hF3 hA3);have HL3:=aH (HL2.o.re hF3 (by have:=HL2.o.apart;simp;omega) (by have:=HL2.o.apart;simp;omega) (by have:=HL2.o.apart;simp;omega) hA3);have HF3:=aH (HF2.o.trans hF3);have c7:=HN3.o.box.cell (i:=7) rfl;have hszr3:=hF3.size;clear hA3 hF3;go_wp2_with(at_builtin;go_must(refine wpList_append_own _ rfl _ _ 199 rfl W5.heap.size 203 i0 (.agg #[.pointer none,(0:Int)]) 2 16 underlying199 HIN.o.1 HIN.o.2.1 HIN.o.2.2.1 HIN.o.2.2.2 rfl aJ vn v _ rfl (HN3.o.nod.alloc _) ⟨w3.heap.size,0,none⟩ 1 1 [some f,(K.cn v:Nat)] rfl rfl (Cw _ _ _ _) aC aM aO (by rw[World.size_alloc];omega) ?_;intro v' wA hown hgrow _;obtain⟨va,vl,vc,rfl⟩:=b9 hown;have hbx:=HN3.o.box_at hgrow;have bc:=hbx.cell (i:=7) rfl;have bz:=hbx.frozen;have HG:=aH (HN3.o.grow HL3.o HSN.o HBPS.o hown hgrow);have HFA:=aH ((br hgrow));have HOW:=aH (bh HN3.o.nod);clear hown hgrow hbx))
    go_roundw
    case rel=>exact⟨v+1,_,_,_,_,by go_num,by omega,(by show W5.heap.size≤(World.setCell _ _ _).heap.size;have:=HFA.o.size;simp[World.setCell];omega),HG.o,((HF.o.trans HF3.o).widen HFA.o (fun z hz=>.inr (by have:=(HOW.o z (by simpa using hz)).1;have:=HF5.o.size;omega))).set _ _ (.inr (by show w.heap.size≤cb;omega))⟩
    case measure=>simp[intOf];omega
  ·have hve:v=(tE K.P).length:=by omega
   subst hve;have hE1:1≤K.E:=by have:=HCA.o.gOk.n1;rw[HCA.o.gn] at this;exact this
   have HDN:=aH (HN.o.done hE1 HOK.o);have HNW:=aH HN.o.new;clear hE1;go_wp2;go_ret2;obtain⟨nb,cap,hD⟩:=HDN.o;exact⟨_,rfl,⟨rfl,rfl,⟨Nat.le_of_succ_le_succ HNW.o.1,Nat.le_of_succ_le_succ HNW.o.2.1,fun u hu=>Nat.le_of_succ_le_succ (HNW.o.2.2 u hu)⟩⟩,hD,HF.o⟩
end
def fB:List TypeId:=[119,258,263,265,233]
theorem DG {T U:TypeId} (h:T∈fB) (hu:U∉fB):U≠T:=fun e=>hu (e ▸ h)
def wu (P T:List Int) (gk lk par bud:Nat) (A:AR) (v:Nat):AR:=Cg lk par T (tE P) (dY (Hh P T gk lk par bud A).G A) v
section
variable{w w':World} {lk:Nat} {vs:List Value}
theorem bQ.lockNot {fb lb sb ab wb:Nat} {A:AR} {F:Nat→Nat→Int} {M:FK} (h:bQ w fb lb sb ab wb A F M) {LT:TypeId} (hk:am w lk vs LT) (hL:LT∈fB:=by decide):fb≠lk∧lb≠lk∧sb≠lk:=by
 obtain⟨_,h1⟩:=h.fbox;obtain⟨_,h2⟩:=h.srow;refine⟨h1.differ hk (DG hL aJ),?_,h2.differ hk (DG hL aJ)⟩;cases h with
 |tas e hb h hA=>exact h.box.differ hk (DG hL aJ)
 |ticket e hb h hA=>exact h.box.differ hk (DG hL aJ)
 |parted e hb h=>exact h.box.differ hk (DG hL aJ)
 |mcs e hb h=>exact h.box.differ hk (DG hL aJ)
 |clh X e hb h=>exact h.box.differ hk (DG hL aJ)
theorem aj.lockNot {ab wb:Nat} {A:AR} (h:aj w ab wb A) {LT:TypeId} (hk:am w lk vs LT) (hL:LT∈fB:=by decide):ab≠lk∧wb≠lk:=
 ⟨h.box.differ hk (DG hL aJ),h.row.differ hk (DG hL aJ)⟩
theorem IR.lockFrm {g:Nat} {v:Value} {zs:List Int} (h:IR w g v zs) {LT:TypeId} (hk:am w lk vs LT) (hf:ae [lk] w w') (hL:LT∈fB:=by decide):IR w' g v zs:=by
 have h0:=h;obtain⟨_,_,_,hh,_⟩:=h;exact h0.frm hf (by simp;exact hh.differ hk (DG hL aJ))
theorem gh.lockFrm {tb:Nat} {P T:List Int} (h:gh w tb P T) {LT:TypeId} (hk:am w lk vs LT) (hf:ae [lk] w w') (hL:LT∈fB:=by decide):gh w' tb P T:=by
 obtain⟨vp,vt,vup,vnode,vslot,vm,gt,gn,gs,gm,h1,h2,h3,h4,h5⟩:=h;exact⟨vp,vt,vup,vnode,vslot,vm,gt,gn,gs,gm,h1.frm hf (by simp;exact h1.differ hk (DG hL aJ)),h2.lockFrm hk hf hL,h3.lockFrm hk hf hL,h4.lockFrm hk hf hL,h5.lockFrm hk hf hL⟩
theorem bQ.lockFrm {fb lb sb ab wb:Nat} {A:AR} {F:Nat→Nat→Int} {M:FK} (h:bQ w fb lb sb ab wb A F M) {LT:TypeId} (hk:am w lk vs LT) (hf:ae [lk] w w') (hL:LT∈fB:=by decide):bQ w' fb lb sb ab wb A F M:=by
 have n1:=h.lockNot hk hL;have n2:=h.ar.lockNot hk hL;exact h.frm hf aQ
theorem AA.lockFrm {B:CB} {K:CK} {S:CS} (h:AA w B K S) {LT:TypeId} (hk:am w lk vs LT) (hf:ae [lk] w w') (hL:LT∈fB:=by decide):AA w' B K S:=by
 obtain⟨cells,hn,hc⟩:=h.nod;exact{box:=h.box.frm hf (by simp;exact h.box.differ hk (DG hL aJ)),tab:=h.tab.lockFrm hk hf hL,glo:=h.glo.lockFrm hk hf hL,nod:=⟨cells,hn.frm hf (by simp;exact hn.differ hk (DG hL aJ)),hc⟩,loc:=fun v hv=>(h.loc v hv).lockFrm hk hf hL,row:=h.row.frm hf (by simp;exact h.row.differ hk (DG hL aJ)),dif:=h.dif,ok:=h.ok}
end
section
variable{w:World} {b1 b2 ab wb lk:Nat} {v u:Value} {A:AR}
def Fz (K:CK) (Av:Nat→AR):CS:=⟨Av (tE K.P).length,iE K.G,fun v=>iE (K.L v),fun _ _=>0⟩
end
end Go.Proofs.YteijjhahgabalaaGreat
