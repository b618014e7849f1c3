/- World.Play, whatever the lock's kind is. -/
import Derived.Test.YteijjhahgabalaaGreatWA30
import Derived.Test.YteijjhahgabalaaGreatWA28
import Derived.Test.YteijjhahgabalaaGreatWA07
import Derived.Test.YteijjhahgabalaaGreatWA12
import Derived.Test.YteijjhahgabalaaGreatWA18
import Derived.Test.YteijjhahgabalaaGreatWA29
import Derived.Test.YteijjhahgabalaaGreatWA13
import Derived.Test.YteijjhahgabalaaGreatWA31
import Derived.Test.YteijjhahgabalaaGreatWA21
import Derived.Test.YteijjhahgabalaaGreatWA06
set_option maxRecDepth 100000
set_option maxHeartbeats 8000000
set_option linter.all false
namespace Go.Proofs.YteijjhahgabalaaGreat
open Go.RowKit
open Tryz
abbrev AU:=Int×Int×Bool×Int
def bT (l:List AU):List Value:=l.flatMap fun e=>[e.1,e.2.1,e.2.2.1,e.2.2.2]
theorem qj (l:List AU) (e:AU):bT (l++[e])=bT l++[.int .i64 e.1,.int .i64 e.2.1,.bool e.2.2.1,.int .i64 e.2.2.2]:=by unfold bT;simp
def LP.aft (p:LP) (s:p.σ) (l:List (Int×Int)):p.σ:=l.foldl (fun s a=>p.doS s a.1 a.2) s
def LP.evs (p:LP):p.σ→List (Int×Int)→List AU
 |_,[]=>[]
 |s,a::l=>p.doE s a.1 a.2::p.evs (p.doS s a.1 a.2) l
structure LP.Ok (p:LP):Prop where
 keep:∀k s i x,k<100000→p.I k s→p.I (k+1) (p.doS s i x)
section
variable{p:LP}
theorem LP.aft_snoc (s:p.σ) (l:List (Int×Int)) (a:Int×Int):p.aft s (l++[a])=p.doS (p.aft s l) a.1 a.2:=by unfold LP.aft;rw[List.foldl_append];rfl
theorem LP.aft_append (s:p.σ) (l m:List (Int×Int)):p.aft s (l++m)=p.aft (p.aft s l) m:=by unfold LP.aft;rw[List.foldl_append]
theorem LP.evs_append (s:p.σ) (l m:List (Int×Int)):p.evs s (l++m)=p.evs s l++p.evs (p.aft s l) m:=by
 induction l generalizing s with
 |nil=>rfl
 |cons a l ih=>show p.doE s a.1 a.2::p.evs (p.doS s a.1 a.2) (l++m)=_;rw[ih];rfl
theorem LP.evs_len (s:p.σ) (l:List (Int×Int)):(p.evs s l).length=l.length:=by
 induction l generalizing s with
 |nil=>rfl
 |cons a l ih=>show(p.evs _ l).length+1=_;rw[ih];rfl
theorem LP.Ok.aft (h:p.Ok) {k:Nat} {s:p.σ} (hI:p.I k s) (l:List (Int×Int)) (hk:k+l.length≤100000):p.I (k+l.length) (p.aft s l):=by
 induction l generalizing s k with
 |nil=>exact hI
 |cons a l ih=>
  have hk':k+(l.length+1)≤100000:=hk;have:=ih (k:=k+1) (h.keep k s a.1 a.2 aO hI) aO;have e:k+1+l.length=k+(a::l).length:=by show _=k+(l.length+1);omega
  rw[e] at this;exact this
end
def iw (n:Nat) (w:World) (v:Value) (acts:List (Int×Int)):Prop:=
 ∃a cap,v= .slice a acts.length cap∧acts.length≤maxLen∧acts.length≤cap∧(a=none→cap=0)∧(0<acts.length→∃b off,a=some ⟨b,off,none⟩∧b<n∧∀i x,acts[i]? =some x→w.cell? ⟨b,off+i*2,none⟩=some (.int .i64 x.1)∧w.cell? ⟨b,off+i*2+1,none⟩=some (.int .i64 x.2))
theorem iw.old {n:Nat} {w w':World} {v:Value} {acts:List (Int×Int)} (h:iw n w v acts) {S:List Nat} (hf:ae S w w') (hs:∀z∈S,n≤z):iw n w' v acts:=by
 obtain⟨a,cap,h1,h2,h4,h5,h3⟩:=h;refine⟨a,cap,h1,h2,h4,h5,fun h0=>?_⟩;obtain⟨b,off,e,hb,hc⟩:=h3 h0;exact⟨b,off,e,hb,fun i x hx=>⟨hf.cell (hc i x hx).1 (fun hm=>by have:=hs b hm;omega),hf.cell (hc i x hx).2 (fun hm=>by have:=hs b hm;omega)⟩⟩
theorem tf:(prog.info? 35).map (fun i=>(i.zero,i.size,i.bytes))=some (some (.agg #[(0:Int),(0:Int),false,(0:Int)]),4,32):=by kernel_rfl
section
variable{p:LP} {b:LB p} {w w':World} {wo tb lk:Nat} {s s':p.σ} {k n:Nat} {l:Value} {acts:List (Int×Int)}
theorem qM (h:b.Ok) (hp:p.Ok) (hI:p.I k s) (hk:k+acts.length≤100000) (ha:dA b w wo tb lk s) (hl:iw n w l acts) (hn:n≤w.heap.size) (hz:∀z∈b.Z,n≤z):
 Calls prog 18 #[some wo,l] w fun e w'=>∃v,e= .returned v∧w'.ownsRow w.heap.size 35 4 v acts.length (bT (p.evs s acts))∧dA b w' wo tb lk (p.aft s acts)∧ae b.Z w w':=by
 obtain⟨i0,hi,hz0,hz1,hz2⟩:=info_parts tf;have HI:=aH (And.intro hi (And.intro hz0 (And.intro hz1 hz2)));have HP:=aH hl;have H:=aH ha;have H0:=aH ha.lo.at_;have HZ:=aH hz;have HIJ:=aH (fun(j:Nat) (hj:j≤acts.length)=>hp.aft hI (acts.take j) (by rw[List.length_take];omega));obtain⟨a,cap,rfl,hml, -, -, -⟩:=hl;have hk2:acts.length≤100000:=by omega
 clear hi hz0 hz1 hz2 ha hz hI hp hk;go_enter func18,ntmps18;go_wp2_with fail;go_loopw[5,10] (fun vv iv wr=>∃(j:Nat) (v:Value),v=vv∧iv= .int .i64 j∧j≤acts.length∧wr.ownsRow w.heap.size 35 4 v j (bT (p.evs s (acts.take j)))∧dA b wr wo tb lk (p.aft s (acts.take j))∧ae b.Z w wr) (fun _ iv _=>acts.length - (intOf iv).toNat)
 case atStart=>exact⟨0,_,rfl,rfl,Nat.zero_le _,World.ownsRow_nil _ _ _ _,H.o,aF⟩
 case round=>
  obtain⟨j,v,rfl,rfl,hj,hO,hW,hF⟩:=hrel;by_cases hlt:j<acts.length
  ·have e0:decide ((j:Int)<acts.length)=true:=aT;have e0':decide (j<acts.length)=true:=decide_eq_true hlt;have l1:(j:Int)<acts.length:=by omega
   obtain⟨⟨i,x⟩,hix⟩:∃q,acts[j]? =some q:=⟨_,List.getElem?_eq_getElem hlt⟩
   have hPk:=HP.o.old hF HZ.o;obtain⟨a',cap',hv', -, -, -,hc⟩:=hPk;obtain⟨bl,off,e2,hb,hcc⟩:=hc aO;obtain⟨rfl,rfl⟩:a=a'∧cap=cap':=by injection hv' with q1 q2 q3;exact⟨q1,q3⟩
   subst e2;obtain⟨c0,c1⟩:=hcc j _ hix;simp only at c0 c1;have htk:acts.take (j+1)=acts.take j++[(i,x)]:=by rw[List.take_add_one,hix];rfl
   have HEV:=aH (show p.evs s (acts.take (j+1))=p.evs s (acts.take j)++[p.doE (p.aft s (acts.take j)) i x] by rw[htk,LP.evs_append];rfl);have HAF:=aH (show p.aft s (acts.take (j+1))=p.doS (p.aft s (acts.take j)) i x by rw[htk,LP.aft_snoc]);have hij:=HIJ.o j aO;rw[List.length_take,Nat.min_eq_left aO] at hij;have HIK:=aH hij;have HO:=aH hO;have HW':=aH hW;have HF:=aH hF;have hsz:=hF.size;have HX:=aH (bh hO);clear hc hcc hix htk hij hO hW hF hb hv';generalize p.evs s (acts.take j)=es at*;generalize p.aft s (acts.take j)=sj at*;go_wp2_with fail;refine(I3 h HIK.o (HW'.o.same h (aF.alloc _)) i x).mono ?_;rintro e w2 ⟨rfl,hW2,hF2⟩;have HW2:=aH hW2;have hF2':=((ae.refl [] wr).alloc (.cells #[i,x] 38) |>.mono (S':=b.Z) aS).trans hF2;have HO2:=aH (bk HO.o hF2' (fun g hg=>h.new H0.o (HX.o g hg).1));have HX2:=aH (bh HO2.o);have HF2:=aH (HF.o.trans hF2');clear hW2 hF2 hF2' HO HW' HX c0 c1;unfold Bf it;generalize p.doE sj i x=E3 at*;obtain⟨ek,et,er,ec⟩:=E3;simp only;go_wp2_with(at_builtin;go_must(refine wpList_append_own _ rfl _ _ 58 rfl w.heap.size 35 i0 (.agg #[(0:Int),(0:Int),false,(0:Int)]) 4 32 underlying58 HI.o.1 HI.o.2.1 HI.o.2.2.1 HI.o.2.2.2 rfl aJ v j _ rfl (HO2.o.alloc _) ⟨w2.heap.size,0,none⟩ 1 1 [ek,et,er,ec] rfl rfl (jH _ _ _ _ _ _) aC (by unfold maxLen at hml⊢;omega) (by unfold maxLen at hml;omega) (by rw[World.size_alloc];have:=HF2.o.size;omega) ?_;intro v' wA hown hgrow _;have HOA:=aH hown;have HGA:=aH (br hgrow);obtain⟨va,vl,vc,rfl⟩:=b9 hown;clear hown hgrow))
   go_roundw
   case rel=>
    have hown:=HOA.o;have hfA:=HGA.o;have hnz:∀z∈v.ownBlock.toList,z∉b.Z∧w.heap.size≤z:=fun z hz=>by
     have:=(HX2.o z (by simpa using hz)).1;exact⟨h.new H0.o this,this⟩
    refine⟨j+1,_,rfl,by go_num,by omega,?_,?_,HF2.o.widen hfA (fun z hz=>.inr (hnz z hz).2)⟩
    ·rw[HEV.o,qj];exact hown
    ·rw[HAF.o];have hEv:∀z∈v.ownBlock.toList,∃vs T,am w2 z vs T∧T∈sZ:=fun z hz=>by
      rcases HO2.o.2 with⟨rfl,_⟩|⟨g,cp,cur,rfl,hg,hh,_⟩
      ·simp[Value.ownBlock] at hz
      ·have e:g=z:=by
        have:z=g:=by simpa[Value.ownBlock] using hz
        exact this.symm
       subst e;exact⟨cur.toList,35,by unfold am;simpa using hh,by decide⟩
     exact HW2.o.stay h hfA hEv (fun z hz=>(hnz z hz).1)
   case measure=>simp[intOf];omega
  ·have e0:decide ((j:Int)<acts.length)=false:=aB;have e0':decide (j<acts.length)=false:=decide_eq_false hlt;have hje:j=acts.length:=by omega
   have HJE:=aH hje;have HO:=aH hO;have HW':=aH hW;have HF:=aH hF;clear hje hO hW hF;go_wp2;go_ret;have e3:acts.take j=acts:=by rw[HJE.o];exact List.take_length
   have hO:=HO.o;have hW:=HW'.o;rw[e3] at hO hW;refine⟨_,rfl,?_,hW,HF.o⟩;rw[←HJE.o];exact hO
end
structure fR (P T:List Int) (sv:Value) (p:LP) (s0:p.σ):Prop where
 ok:p.Ok
 i0:p.I 0 s0
 mks:∀(w:World) (a b:Value),a7 w 0 a P→a7 w 0 b T→Calls prog 21 #[.agg #[a,b],sv] w fun e w'=>∃(bb:LB p) (wo tb lk:Nat),bb.Ok∧e= .returned (.tuple #[some wo,(0:Int)])∧dA bb w' wo tb lk s0∧(∀z∈bb.Z,w.heap.size≤z)∧ae [] w w'
section
variable{w:World} {a b:Value} {P T:List Int} {x0 x1 x2 x3:Int} {m:Nat}
theorem uu {p:LP} {s0:p.σ} (w:World) (hN:fw P T m→fR P T (kM x0 x1 x2 x3) p s0) (hx:a7 w 0 a P) (hy:a7 w 0 b T) (h0:0≤x0∧x0<256) (h1:0≤x1∧x1<256) (h2:0≤x2∧x2<256) (h3:0≤x3∧x3<256):
 Calls prog 6 #[.agg #[a,b],.agg #[.int .u8 x0,.int .u8 x1,.int .u8 x2,.int .u8 x3],m] w fun e w'=>ae [] w w'∧
  ((¬fw P T m∧e= .returned (.pointer none))∨(fw P T m∧∃(bb:LB p) (wo tb lk:Nat),bb.Ok∧e= .returned (some wo)∧dA bb w' wo tb lk s0∧∀z∈bb.Z,w.heap.size≤z)):=by
 have HF0:=aH (((ae.refl [] w).alloc (.cells #[a,b] 24)).alloc (.cells #[.int .u8 x0,.int .u8 x1,.int .u8 x2,.int .u8 x3] 25));have HSM:=aH (fun(W:World) (hf:ae [] w W)=>lB W (hx.frm hf aS) (hy.frm hf aS) m);have HSP:=aH (fun(W:World)=>zg W x0 x1 x2 x3 h0 h1 h2 h3);have HNW:=aH (fun(W:World) (hf:ae [] w W) (hs:fw P T m)=>(hN hs).mks W _ _ (hx.frm hf aS) (hy.frm hf aS));have hB1:=(am.new w #[a,b] 24).alloc (.cells #[.int .u8 x0,.int .u8 x1,.int .u8 x2,.int .u8 x3] 25);have hB2:=am.new (w.alloc (.cells #[a,b] 24)) #[.int .u8 x0,.int .u8 x1,.int .u8 x2,.int .u8 x3] 25;rw[World.size_alloc] at hB2;have HB1:=aH hB1;have HB2:=aH hB2;have t0:=hB1.cell (i:=0) rfl;have t1:=hB1.cell (i:=1) rfl;obtain⟨a1,cap1,rfl, -, -⟩:=hx;obtain⟨a2,cap2,rfl, -, -⟩:=hy;have hnot:= @aX prog;clear hB1 hB2 h0 h1 h2 h3 hN;by_cases hs:fw P T m
 ·have HS:=aH hs;clear hs;go_enter func6,ntmps6;go_wp2_with fail;refine(HSM.o _ HF0.o).mono ?_;rintro e w1 ⟨r,rfl,hr,hF⟩;obtain rfl:r=true:=hr.2 HS.o;have HF1:=aH (HF0.o.trans hF);have HB1:=aH (HB1.o.frm hF aS);have HB2:=aH (HB2.o.frm hF aS);clear hr hF t0 t1;have hne:=aW [] w1;have hz0:∀q:HW (fun wx=>ae [] w1 wx),q.w.cell? (w.heap.size,0)=some (.slice a1 P.length cap1):=fun q=>(HB1.o.frm q.h aS).cell (i:=0) rfl;have hz1:∀q:HW (fun wx=>ae [] w1 wx),q.w.cell? (w.heap.size,1)=some (.slice a2 T.length cap2):=fun q=>(HB1.o.frm q.h aS).cell (i:=1) rfl;have hy0:∀q:HW (fun wx=>ae [] w1 wx),q.w.cell? (w.heap.size+1,0)=some (.int .u8 x0):=fun q=>(HB2.o.frm q.h aS).cell (i:=0) rfl;have hy1:∀q:HW (fun wx=>ae [] w1 wx),q.w.cell? (w.heap.size+1,1)=some (.int .u8 x1):=fun q=>(HB2.o.frm q.h aS).cell (i:=1) rfl;have hy2:∀q:HW (fun wx=>ae [] w1 wx),q.w.cell? (w.heap.size+1,2)=some (.int .u8 x2):=fun q=>(HB2.o.frm q.h aS).cell (i:=2) rfl;have hy3:∀q:HW (fun wx=>ae [] w1 wx),q.w.cell? (w.heap.size+1,3)=some (.int .u8 x3):=fun q=>(HB2.o.frm q.h aS).cell (i:=3) rfl;go_wp2_with fail;refine aG (fun wx=>ae [] w1 wx) ?_;refine aR (fuel:=7) [0,1] rfl aF.drew1 ?_;intro Kq hK;repeat (go_big_quiet_step (fail))
  refine wpQuiet_nil (hK _ ?_);clear hK Kq;refine aL 2 (fuel:=6) rfl ?_;go_wp2_with fail;refine(HSP.o _).mono ?_;rintro e w2 ⟨rfl,hF⟩;have HF2:=aH (((ae.refl [] w1).drew1).trans hF);clear hF;go_wp2_with fail;refine af ⟨HF2.o,?_⟩;refine aL 3 (fuel:=5) rfl ?_;go_wp2_with fail;refine(HNW.o _ (HF1.o.trans HF2.o) HS.o).mono ?_;rintro e w3 ⟨bb,wo,tb,lk,hbk,rfl,hW,hz,hF⟩;have HBK:=aH hbk;clear hbk;have HW3:=aH hW;have HZ:=aH (fun z h=>Nat.le_trans (HF1.o.trans HF2.o).size (hz z h));have HF3:=aH (HF2.o.trans hF);clear hW hz hF;go_wp2_with fail;refine af ⟨HF3.o,?_⟩;refine aR (fuel:=0) [4,5,6,7,8] rfl HF3.o ?_;intro Kq hK;repeat (go_big_quiet_step (fail))
  refine wpQuiet_nil (hK _ ?_);clear hK Kq;refine aN ?_;go_wp2;go_ret;exact⟨HF1.o.trans HF3.o,.inr ⟨HS.o,bb,wo,tb,lk,HBK.o,rfl,HW3.o,HZ.o⟩⟩
 ·have HS:=aH hs;clear hs;go_enter func6,ntmps6;go_wp2_with fail;refine(HSM.o _ HF0.o).mono ?_;rintro e w1 ⟨r,rfl,hr,hF⟩;obtain rfl:r=false:=by cases r;rfl;exact absurd (hr.1 rfl) HS.o
  have HF1:=aH (HF0.o.trans hF);have HB1:=aH (HB1.o.frm hF aS);have HB2:=aH (HB2.o.frm hF aS);clear hr hF t0 t1;go_wp2;go_ret;exact⟨HF1.o,.inl ⟨HS.o,rfl⟩⟩
end
theorem Bq (kd:Int) (hk:1≤kd∧kd≤13) (w:World):Calls prog 55 #[kd] w fun e w'=>∃str,e= .returned (.string str)∧str.toList.isEmpty=false∧ae [] w w':=by
 have hc:kd=1∨kd=2∨kd=3∨kd=4∨kd=5∨kd=6∨kd=7∨kd=8∨kd=9∨kd=10∨kd=11∨kd=12∨kd=13:=by omega
 rcases hc with rfl|rfl|rfl|rfl|rfl|rfl|rfl|rfl|rfl|rfl|rfl|rfl|rfl;all_goals
  clear hk;go_enter func55,ntmps55;go_wp2;go_ret;exact⟨_,rfl,by kernel_rfl,aF.alloc _⟩
theorem jj (kd:Int) (w:World):Calls prog 11 #[kd] w fun e w'=>e= .returned (.bool (decide (11≤kd)&&decide (kd≤13)))∧w=w':=by
 cases h1:decide (11≤kd)
 all_goals
  go_enter func11,ntmps11;go_wp2;go_ret;exact⟨rfl,rfl⟩
theorem a7.old0 {w w':World} {base:Nat} {v:Value} {zs:List Int} (h:a7 w base v zs) {S:List Nat} (hf:ae S w w') (hs:∀z∈S,w.heap.size≤z):a7 w' base v zs:=by
 obtain⟨a,cap,h1,h2,h3⟩:=h;refine⟨a,cap,h1,h2,fun h0=>?_⟩;obtain⟨b,off,hb,ha,hc⟩:=h3 h0;exact⟨b,off,hb,ha,fun i hi=>hf.cell (hc i hi) (fun hm=>by have:=hs b hm;have:=qw (hc i hi);simp only at this;omega)⟩
def fq (w:World) (ab wb:Nat) (v:Value) (zs:List Int):Prop:=∀w' S,ae S w w'→(∀z∈S,z=ab∨z=wb∨w.heap.size≤z)→a7 w' 0 v zs
theorem fq.of {w0 w:World} {ab wb:Nat} {v:Value} {zs:List Int} (h:a7 w0 0 v zs) (hf:ae [] w0 w) (ha:w0.heap.size≤ab) (hb:w0.heap.size≤wb):fq w ab wb v zs:=fun w' S h2 hs=>
 h.old0 ((hf.mono (S':=S) aS).trans h2) (fun z hz=>by rcases hs z hz with e|e|e;omega;omega;exact Nat.le_trans hf.size e)
theorem fq.next {w w1:World} {ab wb:Nat} {v:Value} {zs:List Int} (h:fq w ab wb v zs) {S:List Nat} (hf:ae S w w1) (hS:∀z∈S,z=ab∨z=wb∨w.heap.size≤z):fq w1 ab wb v zs:=fun w' S' h2 hs=>
 h w' (S++S') ((hf.mono (by intro z hz;simp[hz])).trans (h2.mono (by intro z hz;simp[hz]))) (fun z hz=>by
  rcases List.mem_append.1 hz with e|e
  ·exact hS z e
  ·rcases hs z e with q|q|q
   ·exact .inl q
   ·exact .inr (.inl q)
   ·exact .inr (.inr (Nat.le_trans hf.size q)))
structure fN (P T:List Int) (kd g l par bud:Int) (p:LP) (s0:p.σ):Prop where
 n:p.n=T.length
 kd13:1≤kd∧kd≤13
 sh:p.shares=(decide (11≤kd)&&decide (kd≤13))
 mks:∀(w:World) (ab wb lk:Nat) (x y:Value),a7 w 0 x P→a7 w 0 y T→aj w ab wb (AR.fresh 4096)→am w lk [kd,T.length,.nilIface] 119→fq w ab wb x P→fq w ab wb y T→
  Calls prog 57 #[some lk,some ab,.agg #[x,y],.agg #[g,l,par,bud]] w fun e w'=>∃bb:LB p,bb.Ok∧(bb.ab=ab∧bb.kind=kd)∧e= .returned (0:Int)∧nY bb w' lk s0∧(∀z∈bb.Z,z=ab∨z=wb∨w.heap.size≤z)∧ae [ab,wb,lk] w w'
section
variable{w:World} {ab wb:Nat} {v u:Value} {P T:List Int} {kd g l par bud:Int} {p:LP} {s0:p.σ}
theorem z9 (hkx:fq w ab wb v P) (hky:fq w ab wb u T) (hx:a7 w 0 v P) (hy:a7 w 0 u T) (hT:du P T) (h:fN P T kd g l par bud p s0) (hA:aj w ab wb (AR.fresh 4096)):
 Calls prog 38 #[some ab,.agg #[v,u],.agg #[kd,g,l,par,bud]] w fun e w'=>∃(lk:Nat) (bb:LB p),bb.Ok∧(bb.ab=ab∧bb.kind=kd)∧e= .returned (.tuple #[some lk,(0:Int)])∧nY bb w' lk s0∧(∀z∈bb.Z,z=ab∨z=wb∨w.heap.size≤z)∧ae [ab,wb] w w':=by
 have HF0:=aH (((ae.refl [] w).alloc (.cells #[v,u] 24)).alloc (.cells #[kd,g,l,par,bud] 44));have HB1:=aH ((am.new w #[v,u] 24).frm ((ae.refl [] _).alloc (.cells #[kd,g,l,par,bud] 44)) aS);have hb2:=am.new (w.alloc (.cells #[v,u] 24)) #[kd,g,l,par,bud] 44;rw[World.size_alloc] at hb2;have HB2:=aH hb2;have HCK:=aH (fun(W:World) (hf:ae [] w W)=>iZ W (hx.frm hf aS) (hy.frm hf aS) hT);have HMK:=aH (fun(W:World) (lk:Nat) (hf:ae [] w W) (hl:am W lk [kd,T.length,.nilIface] 119)=>h.mks W ab wb lk _ _ (hx.frm hf aS) (hy.frm hf aS) (hA.frm hf aS aS) hl (hkx.next hf aS) (hky.next hf aS));have HNM:=aH (fun(W:World)=>Bq kd h.kd13 W);obtain⟨s1,s2,s3,s4⟩:=hT.size;obtain⟨a1,cap1,rfl, -, -⟩:=hx;obtain⟨a2,cap2,rfl, -, -⟩:=hy;clear hA h hb2 hkx hky;go_enter func38,ntmps38;go_wp2_with fail;refine(HNM.o _).mono ?_;rintro e w1 ⟨str,rfl,hstr,hF1⟩;have HF1:=aH (HF0.o.trans hF1);have HB1':=aH (HB1.o.frm hF1 aS);have HB2':=aH (HB2.o.frm hF1 aS);have t0:=HB1'.o.cell (i:=0) rfl;have t1:=HB1'.o.cell (i:=1) rfl;have s0:=HB2'.o.cell (i:=0) rfl;have s1':=HB2'.o.cell (i:=1) rfl;have s2':=HB2'.o.cell (i:=2) rfl;have s3':=HB2'.o.cell (i:=3) rfl;have s4':=HB2'.o.cell (i:=4) rfl;clear hF1 HB1 HB2;go_wp2_with fail;refine(HCK.o w1 HF1.o).mono ?_;rintro e w2 ⟨rfl,hF2⟩;have HF2:=aH (HF1.o.trans hF2);have HT:=aH (HB1'.o.frm hF2 aS);have HS:=aH (HB2'.o.frm hF2 aS);clear hF2 HB1' HB2' t0 t1 s0 s1' s2' s3' s4' HF1 HF0 HCK hstr;have t0:=HT.o.cell (i:=0) rfl;have t1:=HT.o.cell (i:=1) rfl;have s0:=HS.o.cell (i:=0) rfl;have s1':=HS.o.cell (i:=1) rfl;have s2':=HS.o.cell (i:=2) rfl;have s3':=HS.o.cell (i:=3) rfl;have s4':=HS.o.cell (i:=4) rfl;have q1:=HT.o.lt;have q2:=HS.o.lt;go_wp2_with fail;refine(HMK.o _ w2.heap.size (HF2.o.alloc _) (am.new w2 _ _)).mono ?_;rintro e w3 ⟨bb,hbk,hab,rfl,hL,hz,hF3⟩;have HL:=aH hL;have HBK:=aH hbk;have HZ:=aH (show∀z∈bb.Z,z=ab∨z=wb∨w.heap.size≤z from fun z h=>by rcases hz z h with e|e|e;exact .inl e;exact .inr (.inl e);exact .inr (.inr (by have:=HF2.o.size;rw[World.size_alloc] at e;omega)));have HF3:=aH (HF2.o.alloc (.cells #[kd,T.length,.nilIface] 119) |>.mono (S':=[ab,wb]) aS |>.widen hF3 (fun z hz=>by simp at hz;rcases hz with e|e|e;exact .inl (by simp[e]);exact .inl (by simp[e]);exact .inr (by rw[e];exact HF2.o.size)));clear hL hF3 hbk hz;go_wp2;go_ret2;exact⟨_,bb,HBK.o,hab,rfl,HL.o,HZ.o,HF3.o⟩
theorem ey (hx:a7 w 0 v P) (hy:a7 w 0 u T) (hT:du P T) (h:fN P T kd g l par bud p s0):
 Calls prog 21 #[.agg #[v,u],.agg #[kd,g,l,par,bud]] w fun e w'=>∃(bb:LB p) (wo tb lk:Nat),bb.Ok∧e= .returned (.tuple #[some wo,(0:Int)])∧dA bb w' wo tb lk s0∧(∀z∈bb.Z,w.heap.size≤z)∧ae [] w w':=by
 have HF0:=aH (((ae.refl [] w).alloc (.cells #[v,u] 24)).alloc (.cells #[kd,g,l,par,bud] 44));have HB1:=aH ((am.new w #[v,u] 24).frm ((ae.refl [] _).alloc (.cells #[kd,g,l,par,bud] 44)) aS);have hb2:=am.new (w.alloc (.cells #[v,u] 24)) #[kd,g,l,par,bud] 44;rw[World.size_alloc] at hb2;have HB2:=aH hb2;have HLN:=aH (fun(W:World) (ab wb:Nat) (hf:ae [] w W) (ha:aj W ab wb (AR.fresh 4096)) (h1:w.heap.size≤ab) (h2:w.heap.size≤wb)=>z9 (fq.of hx hf h1 h2) (fq.of hy hf h1 h2) (hx.frm hf aS) (hy.frm hf aS) hT h ha);have HPN:=aH (fun(W:World) (hf:ae [] w W)=>eH (hx.frm hf aS) (hy.frm hf aS) hT);have hsh:=h.sh;have HSH:=aH (fun(W:World)=>jj kd W);rw[←hsh] at HSH;obtain⟨a1,cap1,rfl, -, -⟩:=hx;obtain⟨a2,cap2,rfl, -, -⟩:=hy;clear h hb2 hsh;go_enter func21,ntmps21;go_wp2_with fail;refine(BU 4096 _).mono ?_;rintro e w1 ⟨rfl,hA,hF1⟩;have e4:nJ 4096=4096:=by decide
 rw[e4] at hA;generalize hab:(((w.alloc (.cells #[.slice a1 P.length cap1,.slice a2 T.length cap2] 24)).alloc (.cells #[kd,g,l,par,bud] 44))).heap.size=ab at hA⊢;have hlo:w.heap.size+2≤ab:=by rw[←hab,World.size_alloc,World.size_alloc];omega
 clear hab;have HA:=aH hA;have HF1:=aH (HF0.o.trans hF1);have HB1':=aH (HB1.o.frm hF1 aS);have HB2':=aH (HB2.o.frm hF1 aS);have t0:=HB1'.o.cell (i:=0) rfl;have t1:=HB1'.o.cell (i:=1) rfl;have s0:=HB2'.o.cell (i:=0) rfl;have s1':=HB2'.o.cell (i:=1) rfl;have s2':=HB2'.o.cell (i:=2) rfl;have s3':=HB2'.o.cell (i:=3) rfl;have s4':=HB2'.o.cell (i:=4) rfl;clear hF1 HB1 HB2 hA;go_wp2_with fail;refine(HLN.o w1 _ _ HF1.o HA.o aO aO).mono ?_;rintro e w2 ⟨lk,bb,hbk,⟨hB1,hB2⟩,rfl,hL,hz,hF2⟩;have HT:=aH (HB1'.o.frm hF2 aQ);have HS:=aH (HB2'.o.frm hF2 aQ);have HF2:=aH (HF1.o.widen hF2 (fun z hz=>.inr (by simp at hz;omega)));have HL:=aH hL;have HBK:=aH hbk;have HB12:=aH (And.intro hB1 hB2);have HZ:=aH (show∀z∈bb.Z,w.heap.size≤z from fun z h=>by rcases hz z h with e|e|e;omega;omega;exact Nat.le_trans HF1.o.size e);clear hF2 hL HB1' HB2' t0 t1 s0 s1' s2' s3' s4' HA HLN hbk hz hB1 hB2;have t0:=HT.o.cell (i:=0) rfl;have t1:=HT.o.cell (i:=1) rfl;go_wp2_with fail;refine(HPN.o w2 HF2.o).mono ?_;rintro e w3 ⟨tb,rfl,htb,hTb,hF3⟩;have HS3:=aH (HS.o.frm hF3 aS);have HF3:=aH (HF2.o.trans hF3);have HL3:=aH (HL.o.same HBK.o hF3);clear hF3 hTb htb;have s0:=HS3.o.cell (i:=0) rfl;go_wp2_with fail;refine(HSH.o _).mono ?_;rintro e w' ⟨rfl,rfl⟩;go_wp2;go_ret2;rw[←HB12.o.1];exact⟨bb,_,tb,lk,HBK.o,rfl,⟨am.new _ _ _,HL3.o.same HBK.o (aF.alloc _)⟩,HZ.o,HF3.o.alloc _⟩
end
structure iH (p:LP) where
 T:TypeId
 q:Value
 Z:List Nat
 ab:Nat
 wb:Nat
 At:World→p.σ→Prop
 nAsk:FuncId
 rAsk:Value
 nLeave:FuncId
 rLeave:Value
 nStep:FuncId
 rStep:Value
 nSpot:FuncId
 rSpot:Value
 nCount:FuncId
 rCount:Value
section
variable{p:LP}
structure iH.Ok (b:iH p):Prop where
 n32:p.n≤32
 sh:p.shares=false
 mAsk:∀F w,(method (F+3) b.T b.q "Ask").run prog w= .ok (b.nAsk,b.rAsk) w
 mLeave:∀F w,(method (F+3) b.T b.q "Leave").run prog w= .ok (b.nLeave,b.rLeave) w
 mStep:∀F w,(method (F+3) b.T b.q "Step").run prog w= .ok (b.nStep,b.rStep) w
 mSpot:∀F w,(method (F+3) b.T b.q "Spot").run prog w= .ok (b.nSpot,b.rSpot) w
 eAsk:∀args w,(callFunc b.nAsk args).run prog w= .ok (.enter b.nAsk args) w
 eLeave:∀args w,(callFunc b.nLeave args).run prog w= .ok (.enter b.nLeave args) w
 eStep:∀args w,(callFunc b.nStep args).run prog w= .ok (.enter b.nStep args) w
 eSpot:∀args w,(callFunc b.nSpot args).run prog w= .ok (.enter b.nSpot args) w
 cAsk:∀w k s i,p.I k s→b.At w s→eO p i→Calls prog b.nAsk #[b.rAsk,.int .i64 i] w fun e w'=>e= .returned (.bool (p.askR s i false))∧b.At w' (p.askS s i false)∧ae b.Z w w'
 cLeave:∀w k s i,p.I k s→b.At w s→eO p i→Calls prog b.nLeave #[b.rLeave,.int .i64 i] w fun e w'=>e= .returned (.bool (p.leaveR s i))∧b.At w' (p.leaveS s i)∧ae b.Z w w'
 cStep:∀w k s i,p.I k s→b.At w s→eO p i→Calls prog b.nStep #[b.rStep,.int .i64 i] w fun e w'=>e= .returned (.bool (p.stepR s i))∧b.At w' (p.stepS s i)∧ae b.Z w w'
 cSpot:∀w s i,b.At w s→eO p i→Calls prog b.nSpot #[b.rSpot,.int .i64 i] w fun e w'=>e= .returned (d9 p s i)∧ae [] w w'
 ar:∀w s,b.At w s→aj w b.ab b.wb (p.ar s)
 free:∀w s,b.At w s→dI w b.Z
 stay:∀w w' s S,b.At w s→ae S w w'→dI w S→(∀z∈S,z∉b.Z)→b.At w' s
 ext:∀w s s',p.eqv s s'→b.At w s→b.At w s':=by intro w s s' e h;cases e;exact h
variable{b:iH p} {w w':World} {s:p.σ} {i:Int} {k:Nat}
theorem iH.Ok.same (h:b.Ok) (ha:b.At w s) (hf:ae [] w w'):b.At w' s:=h.stay _ _ _ _ ha hf (dI.nil _) aS
theorem yJ {T:TypeId} {v rv:Value} {nf:FuncId} {q q1 q2 q3:Int} (hm:∀w,(method 437 T v "Spot").run prog w= .ok (nf,rv) w) (he:∀args w,(callFunc nf args).run prog w= .ok (.enter nf args) w) (hC:Calls prog nf #[rv,i] w fun e w'=>e= .returned (.agg #[q,q1,q2,q3])∧ae [] w w'):Calls prog 282 #[.iface T v,i] w fun e w'=>e= .returned (.int .i64 (if q=10 then 1 else 0))∧ae [] w w':=by
 have fd:=bY;have HC:=aH hC;clear hC;have hc:(q=10)∨(q≠10∧(q==10)=false):=by
  by_cases h0:q=10
  ·exact .inl h0
  ·exact .inr ⟨h0,by simpa using h0⟩
 rcases hc with rfl|⟨d0,d1⟩
 ·rw[if_pos rfl];go_enter func282,ntmps282;go_wp2_with fail;refine HC.o.mono ?_;rintro e w1 ⟨rfl,hF⟩;have HF:=aH hF;clear hF;go_wp2;go_ret;exact⟨rfl,HF.o⟩
 ·rw[if_neg d0];clear d0;go_enter func282,ntmps282;go_wp2_with fail;refine HC.o.mono ?_;rintro e w1 ⟨rfl,hF⟩;have HF:=aH hF;clear hF;go_wp2;go_ret;exact⟨rfl,HF.o⟩
theorem Ci (h:b.Ok) (ha:b.At w s) (hi:eO p i):Calls prog 282 #[.iface b.T b.q,i] w fun e w'=>e= .returned (.int .i64 (if p.sp s i 0=10 then 1 else 0))∧ae [] w w':=
 yJ (h.mSpot 434) h.eSpot (h.cSpot _ _ _ ha hi)
theorem tX (h:b.Ok) (ha:b.At w s) (hi:eO p i):Calls prog 281 #[.agg #[.iface b.T b.q],i] w fun e w'=>e= .returned (.int .i64 (if p.sp s i 0=10 then 1 else 0))∧ae [] w w':=by
 have hF0:ae [] w (w.alloc (.cells #[.iface b.T b.q] 179)):=aF.alloc _;have HC:=aH (Ci h (h.same ha hF0) hi);have HF0:=aH hF0;generalize(if p.sp s i 0=10 then(1:Int) else 0)=x at*;clear h ha hi hF0;go_enter func281,ntmps281;go_wp2_with fail;refine HC.o.mono ?_;rintro e w1 ⟨rfl,hF⟩;have HF:=aH (HF0.o.trans hF);clear hF;go_wp2;go_ret;exact⟨rfl,HF.o⟩
theorem yI (h:b.Ok) (hI:p.I k s) (ha:b.At w s) (hi:eO p i):Calls prog 280 #[.agg #[.iface b.T b.q],i,false] w fun e w'=>e= .returned (.bool (p.askR s i false))∧b.At w' (p.askS s i false)∧ae b.Z w w':=by
 have hF0:ae [] w (w.alloc (.cells #[.iface b.T b.q] 179)):=aF.alloc _;have HC:=aH (h.cAsk _ _ _ _ hI (h.same ha hF0) hi);have hm:∀w,(method 437 b.T b.q "Ask").run prog w= .ok (b.nAsk,b.rAsk) w:=h.mAsk 434;have he:=h.eAsk;have HF0:=aH (hF0.mono (S':=b.Z) aS);have hnot:= @aX prog;clear h ha hi hF0 hI;go_enter func280,ntmps280;go_wp2_with fail;refine HC.o.mono ?_;rintro e w1 ⟨rfl,hA,hF⟩;have HA:=aH hA;have HF:=aH (HF0.o.trans hF);clear hA hF;go_wp2;go_ret;exact⟨rfl,HA.o,HF.o⟩
def iH.alone (b:iH p) (kind:Int):LB p where
 T:=179
 v:=.agg #[.iface b.T b.q]
 Z:=b.Z
 ab:=b.ab
 wb:=b.wb
 kind:=kind
 At:=b.At
 nAsk:=280
 rAsk:=.agg #[.iface b.T b.q]
 nLeave:=b.nLeave
 rLeave:=b.rLeave
 nStep:=b.nStep
 rStep:=b.rStep
 nSpot:=b.nSpot
 rSpot:=b.rSpot
 nCount:=281
 rCount:=.agg #[.iface b.T b.q]
theorem iR (F:Nat) (T:TypeId) (q:Value) (w:World):(method (F+4) 179 (.agg #[.iface T q]) "Leave").run prog w=(method (F+3) T q "Leave").run prog w∧(method (F+4) 179 (.agg #[.iface T q]) "Step").run prog w=(method (F+3) T q "Step").run prog w∧(method (F+4) 179 (.agg #[.iface T q]) "Spot").run prog w=(method (F+3) T q "Spot").run prog w:=⟨by kernel_rfl,by kernel_rfl,by kernel_rfl⟩
theorem iH.Ok.alone_ok (h:b.Ok) (kind:Int) (hk:kind<11) (hcnt:∀s i,p.cnt s i=if p.sp s i 0=10 then 1 else 0):(b.alone kind).Ok where
 n32:=h.n32
 mAsk:=fun F w=>by kernel_rfl
 mLeave:=fun F w=>(iR F b.T b.q w).1.trans (h.mLeave F w)
 mStep:=fun F w=>(iR F b.T b.q w).2.1.trans (h.mStep F w)
 mSpot:=fun F w=>(iR F b.T b.q w).2.2.trans (h.mSpot F w)
 mCount:=fun F w=>by kernel_rfl
 eAsk:=fun args w=>by kernel_rfl
 eLeave:=h.eLeave
 eStep:=h.eStep
 eSpot:=h.eSpot
 eCount:=fun args w=>by kernel_rfl
 cAsk:=fun w k s i r hI ha hi hr=>by
  cases r with
  |false=>exact yI h hI ha hi
  |true=>have:=hr rfl;rw[h.sh] at this;simp at this
 cLeave:=h.cLeave
 cStep:=h.cStep
 cSpot:=h.cSpot
 cCount:=fun w s i ha hi=>by rw[hcnt];exact tX h ha hi
 shares:=fun w=>by
  have:=jj kind w;rw[decide_eq_false (show¬11≤kind by omega),Bool.false_and] at this;rw[h.sh];exact this
 ar:=h.ar
 free:=h.free
 stay:=h.stay
 ext:=h.ext
end
theorem LP.keep_of {p:LP} (hI:∀k s,k<100000→p.I k s→p.I (k+1) s) (hA:∀k s (j:Nat) r,k<100000→p.I k s→j<p.n→(r=true→p.shares=true)→p.I (k+1) (p.askS s j r)) (hL:∀k s (j:Nat),k<100000→p.I k s→j<p.n→p.I (k+1) (p.leaveS s j))
 (hS:∀k s (j:Nat),k<100000→p.I k s→j<p.n→p.I (k+1) (p.stepS s j)):p.Ok where
 keep:=fun k s i x hk h=>by
  unfold LP.doS;by_cases hs:aZ p.n i=false
  ·rw[if_pos hs];exact hI k s hk h
  ·rw[if_neg hs];have hi:0≤i∧i<(p.n:Int):=by
    have hs':aZ p.n i=true:=by cases hq:aZ p.n i;exact absurd hq hs;rfl
    unfold aZ at hs';exact(of_decide_eq_true hs':0≤i∧i<(p.n:Int))
   obtain⟨j,rfl⟩:=Int.eq_ofNat_of_zero_le hi.1;have hj:j<p.n:=by omega
   by_cases x0:x=0
   ·rw[if_pos x0];unfold LP.step;split
    ·exact hS k s j hk h hj
    ·exact hI k s hk h
   rw[if_neg x0];by_cases x1:x=1∨x=3
   ·rw[if_pos x1];unfold LP.ask;split
    ·exact hI k s hk h
    ·rename_i hg
     exact hA k s j _ hk h hj (fun e=>by rw[e] at hg;simpa using hg)
   rw[if_neg x1];by_cases x2:x=2∨x=4
   ·rw[if_pos x2];unfold LP.leave;split
    ·exact hI k s hk h
    ·exact hL k s j hk h hj
   ·rw[if_neg x2];exact hI k s hk h
def dW (K:FK):LP where
 σ:=AR×(Nat→Nat→Int)
 n:=K.n
 shares:=false
 ar:=fun s=>s.1
 I:=fun k s=>s.1.Fit∧FI K s.2 s.1∧s.1.ops≤1000+(k:Int)∧K.b+K.size≤s.1.taken+1
 askR:=fun s i _=>ah K.n s.2 i 0
 askS:=fun s i _=>(s.1,gj K s.2 i)
 leaveR:=fun s i=>ah K.n s.2 i 10
 leaveS:=fun s i=>(s.1,cQ K s.2 i)
 stepR:=fun s i=>ca K s.2 s.1 i
 stepS:=fun s i=>(b7 K s.2 s.1 i,bV K s.2 s.1 i)
 sp:=fun s i t=>s.2 i.toNat t
 cnt:=fun s i=>if s.2 i.toNat 0=10 then 1 else 0
theorem JA {n:Nat} {S:Nat→Nat→Int} {j:Nat} {a b:Int} (h:S j 0≠a):a8 n S j a b=S:=by
 unfold a8 ah;rw[Int.toNat_natCast];simp[h]
theorem z6 {K:FK} (hK:K.Ok):(dW K).Ok:=by
 refine LP.keep_of (fun k s hk h=>?_) (fun k s j r hk h hj _=>?_) (fun k s j hk h hj=>?_) (fun k s j hk h hj=>?_)
 ·obtain⟨h1,h2,h3,h4⟩:=h;exact⟨h1,h2,by omega,h4⟩
 ·obtain⟨h1,h2,h3,h4⟩:=h;refine⟨h1,?_,by show s.1.ops≤_;omega,h4⟩;show FI K (gj K s.2 j) s.1;by_cases h0:s.2 j 0=0
  ·exact(h2.ask hK hj h0).1
  ·have e:gj K s.2 j=s.2:=by
    unfold gj;split
    ·unfold pe fL;rw[Int.toNat_natCast];simp[h0]
    ·exact JA h0
   rw[e];exact h2
 ·obtain⟨h1,h2,h3,h4⟩:=h;refine⟨h1,?_,by show s.1.ops≤_;omega,h4⟩;show FI K (cQ K s.2 j) s.1;by_cases h0:s.2 j 0=10
  ·exact(h2.leave hK hj h0).1
  ·have e:cQ K s.2 j=s.2:=by unfold cQ;exact JA h0
   rw[e];exact h2
 ·obtain⟨h1,h2,h3,h4⟩:=h;have hl:s.1.ops<1000000000:=by omega
  obtain⟨q1,q2,_,_⟩:=h2.step hK h1 hl h4 hj;have q3:=q2.le;have q4:=q2.taken;exact⟨q2.fit h1 hl,q1,by show(b7 K s.2 s.1 j).ops≤_;omega,by show _≤(b7 K s.2 s.1 j).taken+1;omega⟩
section
variable{w w':World} {fb lb sb ab wb:Nat} {A A':AR} {S:Nat→Nat→Int} {K:FK}
theorem bQ.lfre (h:bQ w fb lb sb ab wb A S K) {Z:List Nat} (hz:dI w Z):fb∉Z∧lb∉Z:=by
 obtain⟨_,h1⟩:=h.fbox;refine⟨hz.not h1,?_⟩;cases h with
 |tas e hb h hA=>exact hz.not h.box
 |ticket e hb h hA=>exact hz.not h.box
 |parted e hb h=>exact hz.not h.box
 |mcs e hb h=>exact hz.not h.box
 |clh X e hb h=>exact hz.not h.box
theorem aj.fre (h:aj w ab wb A) {z:Nat} (hz:z=ab∨z=wb):∃vs T,am w z vs T∧T∈sZ:=by
 rcases hz with e|e
 ·subst e;exact⟨_,_,h.box,by decide⟩
 ·subst e;exact⟨_,_,h.row,by decide⟩
theorem bQ.stays (h:bQ w fb lb sb ab wb A S K) {Z:List Nat} (hf:ae Z w w') (hz:dI w Z) (hn:∀z∈Z,z∉[sb,ab,wb]):bQ w' fb lb sb ab wb A S K:=by
 have hq:∀z,z∈[sb,ab,wb]→z∉Z:=fun z h1 h2=>hn z h2 h1;exact h.re hf (h.lfre hz).1 (h.lfre hz).2 (hq _ aS) (h.ar.frm hf (hq _ aS) (hq _ aS))
def Hi (K:FK) (fb lb sb ab wb:Nat):iH (dW K) where
 T:=76
 q:=.pointer (some ⟨fb,0,none⟩)
 Z:=[sb,ab,wb]
 ab:=ab
 wb:=wb
 At:=fun w s=>bQ w fb lb sb ab wb s.1 s.2 K
 nAsk:=153
 rAsk:=.pointer (some ⟨fb,0,none⟩)
 nLeave:=155
 rLeave:=.pointer (some ⟨fb,0,none⟩)
 nStep:=157
 rStep:=.pointer (some ⟨fb,0,none⟩)
 nSpot:=156
 rSpot:=.pointer (some ⟨fb,0,none⟩)
 nCount:=0
 rCount:=.nilIface
theorem gM {K:FK} (hK:K.Ok):(Hi K fb lb sb ab wb).Ok where
 n32:=hK.n32
 sh:=rfl
 mAsk:=fun F w=>by kernel_rfl
 mLeave:=fun F w=>by kernel_rfl
 mStep:=fun F w=>by kernel_rfl
 mSpot:=fun F w=>by kernel_rfl
 eAsk:=fun args w=>by kernel_rfl
 eLeave:=fun args w=>by kernel_rfl
 eStep:=fun args w=>by kernel_rfl
 eSpot:=fun args w=>by kernel_rfl
 cAsk:=fun w k s i hI ha hi=>(nL ha i).mono (fun e w' ⟨h1,h2,h3⟩=>⟨h1,h2,h3.mono (by simp[Hi])⟩)
 cLeave:=fun w k s i hI ha hi=>(ir ha i).mono (fun e w' ⟨h1,h2,h3⟩=>⟨h1,h2,h3.mono (by simp[Hi])⟩)
 cStep:=fun w k s i hI ha hi=>(dL ha (fun e=>hI.2.1.cpc e) i).mono (fun e w' ⟨h1,h2,h3⟩=>⟨h1,h2,h3⟩)
 cSpot:=fun w s i ha hi=>(wQ ha i).mono (fun e w' ⟨h1,h2⟩=>⟨by
  rw[h1];unfold dq d9;rw[if_pos (show aZ K.n i=true from decide_eq_true hi)];rfl,h2⟩)
 ar:=fun w s ha=>bQ.ar ha
 free:=fun w s ha z hz=>by
  have hz':z=sb∨z=ab∨z=wb:=by simpa[Hi] using hz
  rcases hz' with e|e
  ·subst e;obtain⟨_,h1⟩:=bQ.srow ha;exact⟨_,_,h1,by decide⟩
  ·exact(bQ.ar ha).fre e
 stay:=fun w w' s S ha hf hs hz=>bQ.stays ha hf hs hz
end
structure JY where
 N:List Int
 at_:Int
 st:Int
structure JU where
 node:Int
 way:Bool
 ps:Int
 last:Int
 fo:Int
structure mO where
 kb:Nat
 nb:Nat
 c1:Nat
 c2:Nat
 c3:Nat
 ab:Nat
def JY.n (M:JY):Nat:=M.N.length
def mO.f (B:mO):Value:=.func (.func 105) #[] #[some B.c1,some B.c2,some B.c3]
structure BX (w:World) (B:mO) (M:JY) (X:JU):Prop where
 box:am w B.kb [B.f,.slice (some ⟨B.nb,0,none⟩) M.n M.n,X.node,X.way,X.ps,X.last,X.fo] 252
 row:am w B.nb (M.N.map (Value.int .i64)) 3
 h1:am w B.c1 [some B.ab] 74
 h2:am w B.c2 [M.at_] 3
 h3:am w B.c3 [M.st] 3
 n32:M.n≤32
section
variable{w w':World} {B:mO} {M:JY} {X:JU}
theorem BX.stays (h:BX w B M X) {Z:List Nat} (hf:ae Z w w') (hq:dI w Z) (hk:B.kb∉Z):BX w' B M X:=
 {h with box:=h.box.frm hf hk,row:=h.row.frm hf (hq.not h.row),h1:=h.h1.frm hf (hq.not h.h1),h2:=h.h2.frm hf (hq.not h.h2),h3:=h.h3.frm hf (hq.not h.h3)}
theorem BX.same (h:BX w B M X) (hf:ae [] w w'):BX w' B M X:=h.stays hf (dI.nil _) aS
theorem BX.box_ (h:BX w B M X) {X':JU} (hf:ae [B.kb] w w') (hb:am w' B.kb [B.f,.slice (some ⟨B.nb,0,none⟩) M.n M.n,X'.node,X'.way,X'.ps,X'.last,X'.fo] 252):BX w' B M X':=by
 have hq:dI w [B.kb]:=dI.one h.box;exact{h with box:=hb,row:=h.row.frm hf (hq.not h.row),h1:=h.h1.frm hf (hq.not h.h1),h2:=h.h2.frm hf (hq.not h.h2),h3:=h.h3.frm hf (hq.not h.h3)}
def JI (M:JY) (x:Int):Bool:=decide (1≤x)&&decide (x≤M.n)
def Bj (M:JY) (X:JU) (x:Int):JU:=
 if !(JI M x)||decide (X.ps=M.n) then{X with way:=false} else
 if M.N[x.toNat - 1]?.getD 0=X.node then{X with way:=false,fo:=x} else{X with way:=true,last:=x,ps:=wrap64 (X.ps+1)}
theorem lZ (h:BX w B M X) (x:Int):Calls prog 303 #[some B.kb,x] w fun e w'=>e= .returned (.bool (JI M x))∧w=w':=by
 have c1:=h.box.cell (i:=1) rfl;unfold JI;clear h;cases d1:decide (1≤x) with
 |false=>
  rw[Bool.false_and];go_enter func303,ntmps303;go_wp2;go_ret;exact⟨rfl,rfl⟩
 |true=>
  rw[Bool.true_and];cases d2:decide (x≤M.n)<;>
  ·go_enter func303,ntmps303;go_wp2;go_ret;exact⟨rfl,rfl⟩
theorem ui (h:BX w B M X):Calls prog 302 #[some B.kb] w fun e w'=>e= .returned (.bool (!X.way))∧w=w':=by
 have c3:=h.box.cell (i:=3) rfl;clear h;go_enter func302,ntmps302;go_wp2;go_ret;exact⟨rfl,rfl⟩
theorem Fj (h:BX w B M X):Calls prog 299 #[some B.kb] w fun e w'=>e= .returned X.fo∧w=w':=by
 have c6:=h.box.cell (i:=6) rfl;clear h;go_enter func299,ntmps299;go_wp2;go_ret;exact⟨rfl,rfl⟩
theorem ld (h:BX w B M X):Calls prog 300 #[some B.kb] w fun e w'=>e= .returned X.last∧w=w':=by
 have c5:=h.box.cell (i:=5) rfl;clear h;go_enter func300,ntmps300;go_wp2;go_ret;exact⟨rfl,rfl⟩
end
section
variable{w w':World} {B:mO} {M:JY} {X:JU}
theorem Gh (h:BX w B M X) (x:Int):Calls prog 301 #[some B.kb,x] w fun e w'=>e= .returned (.bool (!(Bj M X x).way))∧BX w' B M (Bj M X x)∧ae [B.kb] w w':=by
 have H:=aH h;have HI:=aH (fun k=>(lZ (h.same ((ae.refl [] w).drew k)) x).mono (fun e w' q=>(show e= .returned (.bool (JI M x))∧∃n,w'=(w.drewN k).drewN n from⟨q.1,0,q.2.symm⟩)));have c1:=h.box.cell (i:=1) rfl;have c2:=h.box.cell (i:=2) rfl;have c3:=h.box.cell (i:=3) rfl;have c4:=h.box.cell (i:=4) rfl;have c5:=h.box.cell (i:=5) rfl;have c6:=h.box.cell (i:=6) rfl;have kz:=h.box.frozen;have hn:=h.n32;have HB:=aH h.box;by_cases hs:(!(JI M x)||decide (X.ps=M.n))=true
 ·have e:Bj M X x={X with way:=false}:=by unfold Bj;rw[if_pos hs]
  rw[e];have HR:=aH (show∀W,ae [] w W→BX (W.setCell (B.kb,3) (.bool false)) B M {X with way:=false}∧ae [B.kb] w (W.setCell (B.kb,3) (.bool false)) from fun W hf=>⟨(h.same hf).box_ aU ((h.same hf).box.set 3 (.bool false)),(hf.mono aS).set _ _ (.inl aS)⟩);clear h e;cases hi:JI M x with
  |false=>
   rw[hi] at HI;clear hs hi;go_enter func301,ntmps301;go_wp2_with fail
   go_quiet ((go_at_call 303;exact Calls.quiet_of (HI.o _)))
   go_wp2;go_ret;exact⟨rfl,HR.o _ aD⟩
  |true=>
   rw[hi] at HI hs;have hp:X.ps=M.n:=by simpa using hs
   rw[hp] at c4;have q1:((M.n:Int)==(M.n:Int))=true:=by simp
   clear hs hi hp;go_enter func301,ntmps301;go_wp2_with fail
   go_quiet ((go_at_call 303;exact Calls.quiet_of (HI.o _)))
   go_wp2;go_ret;exact⟨rfl,HR.o _ aD⟩
 ·have hs':JI M x=true∧¬X.ps=M.n:=by simpa using hs
  obtain⟨hi,hp⟩:=hs';have hx:1≤x∧x≤M.n:=by unfold JI at hi;simpa using hi
  obtain⟨j,rfl⟩:∃j:Nat,x=(j:Int)+1:=⟨(x - 1).toNat,by omega⟩
  have hj:j<M.n:=by omega
  have e0:M.N[((j:Int)+1).toNat - 1]? =some (M.N[j]?.getD 0):=by
   rw[show((j:Int)+1).toNat - 1=j by omega,List.getElem?_eq_getElem hj];rfl
  have cj:=h.row.cell (i:=j) (v:=.int .i64 (M.N[j]?.getD 0)) (by rw[List.getElem?_map,List.getElem?_eq_getElem hj];rfl);have d1:decide (M.n≤j)=false:=aB;have l1:(j:Int)<M.n:=by omega
  have q1:(X.ps==(M.n:Int))=false:=by simpa using hp
  rw[hi] at HI;by_cases hd:M.N[j]?.getD 0=X.node
  ·have e:Bj M X ((j:Int)+1)={X with way:=false,fo:=(j:Int)+1}:=by unfold Bj;rw[if_neg hs,e0,Option.getD_some,if_pos hd]
   rw[e];rw[hd] at cj;have HR:=aH (show∀W,ae [] w W→BX ((W.setCell (B.kb,3) (.bool false)).setCell (B.kb,6) (.int .i64 ((j:Int)+1))) B M {X with way:=false,fo:=(j:Int)+1}∧ae [B.kb] w ((W.setCell (B.kb,3) (.bool false)).setCell (B.kb,6) (.int .i64 ((j:Int)+1))) from fun W hf=>⟨(h.same hf).box_ (aU.set _ _ (.inl aS)) (((h.same hf).box.set 3 (.bool false)).set 6 (.int .i64 ((j:Int)+1))),((hf.mono aS).set _ _ (.inl aS)).set _ _ (.inl aS)⟩);generalize X.ps=p at*;generalize X.node=nd at*;have q2:(nd==nd)=true:=by simp
   clear h e e0 hd hs hi hp hx;go_enter func301,ntmps301;go_wp2_with fail
   go_quiet ((go_at_call 303;exact Calls.quiet_of (HI.o _)))
   go_wp2_with fail
   go_quiet (fail)
   go_wp2;go_ret;exact⟨rfl,HR.o _ aD⟩
  ·have e:Bj M X ((j:Int)+1)={X with way:=true,last:=(j:Int)+1,ps:=wrap64 (X.ps+1)}:=by unfold Bj;rw[if_neg hs,e0,Option.getD_some,if_neg hd]
   rw[e];have q2:(M.N[j]?.getD 0==X.node)=false:=by simpa using hd
   have HR:=aH (show∀W,ae [] w W→BX (((W.setCell (B.kb,3) (.bool true)).setCell (B.kb,5) (.int .i64 ((j:Int)+1))).setCell (B.kb,4) (.int .i64 (wrap64 (X.ps+1)))) B M {X with way:=true,last:=(j:Int)+1,ps:=wrap64 (X.ps+1)}∧ae [B.kb] w (((W.setCell (B.kb,3) (.bool true)).setCell (B.kb,5) (.int .i64 ((j:Int)+1))).setCell (B.kb,4) (.int .i64 (wrap64 (X.ps+1)))) from fun W hf=>⟨(h.same hf).box_ ((aU.set _ _ (.inl aS)).set _ _ (.inl aS)) ((((h.same hf).box.set 3 (.bool true)).set 5 (.int .i64 ((j:Int)+1))).set 4 (.int .i64 (wrap64 (X.ps+1)))),(((hf.mono aS).set _ _ (.inl aS)).set _ _ (.inl aS)).set _ _ (.inl aS)⟩);generalize X.ps=p at*;generalize X.node=nd at*;generalize M.N[j]?.getD 0=nn at*;clear h e e0 hd hs hi hp hx;go_enter func301,ntmps301;go_wp2_with fail
   go_quiet ((go_at_call 303;exact Calls.quiet_of (HI.o _)))
   go_wp2_with fail
   go_quiet (fail)
   go_wp2;go_ret;exact⟨rfl,HR.o _ aD⟩
end
section
variable{w w':World} {B:mO} {M:JY} {X:JU} {A:AR} {wb:Nat}
def Cu (M:JY) (X:JU) (x nd:Int):JU:=Bj M ⟨nd,X.way,0,0,0⟩ x
theorem FQ (h:BX w B M X) (x nd:Int):Calls prog 297 #[some B.kb,x,nd] w fun e w'=>e= .returned (.bool (!(Cu M X x nd).way))∧BX w' B M (Cu M X x nd)∧ae [B.kb] w w':=by
 have kz:=h.box.frozen;have c2:=h.box.cell (i:=2) rfl;have c4:=h.box.cell (i:=4) rfl;have c5:=h.box.cell (i:=5) rfl;have c6:=h.box.cell (i:=6) rfl;have a1:ae [B.kb] w (w.setCell (B.kb,2) (.int .i64 nd)):=(ae.refl [B.kb] w).set ⟨B.kb,2,none⟩ (.int .i64 nd) (.inl aS);have a2:=a1.set ⟨B.kb,4,none⟩ (.int .i64 0) (.inl aS);have a3:=a2.set ⟨B.kb,5,none⟩ (.int .i64 0) (.inl aS);have hf:=a3.set ⟨B.kb,6,none⟩ (.int .i64 0) (.inl aS);have b1:=h.box.set 2 (.int .i64 nd);have b2:=b1.set 4 (.int .i64 0);have b3:=b2.set 5 (.int .i64 0);have b4:=b3.set 6 (.int .i64 0);simp only[List.set_cons_succ,List.set_cons_zero] at b4;have h1:=h.box_ (X':=⟨nd,X.way,0,0,0⟩) hf b4;clear a1 a2 a3 b1 b2 b3 b4;have HT:=aH (Gh h1 x);have HF:=aH hf;clear h h1 hf;go_enter func297,ntmps297;go_wp2_with fail;refine HT.o.mono ?_;rintro e w' ⟨rfl,hS,hF⟩;have HS:=aH (And.intro hS (HF.o.trans hF));clear hS hF;go_wp2;go_ret;exact⟨rfl,HS.o⟩
def FW (M:JY) (x:Int):Int:=wrap64 (M.at_+wrap64 (M.st*wrap64 (x - 1)))
theorem zd (h:BX w B M X) (hA:aj w B.ab wb A) (x:Int):Calls prog 105 #[x,some B.c1,some B.c2,some B.c3] w fun e w'=>e= .returned (A.get (FW M x):Int)∧aj w' B.ab wb (A.load (FW M x))∧ae [B.ab,wb] w w':=by
 have c1:=h.h1.cell (i:=0) rfl;have c2:=h.h2.cell (i:=0) rfl;have c3:=h.h3.cell (i:=0) rfl;have HL:=aH (bq hA (FW M x));clear h hA;go_enter func105,ntmps105;go_wp2_with fail;refine HL.o.mono ?_;rintro e w' ⟨rfl,hA,hF⟩;have HA:=aH (And.intro hA hF);clear hA hF;go_wp2;go_ret;exact⟨rfl,HA.o⟩
def DX (M:JY) (A:AR) (X:JU):Bool:=if X.way then !(Bj M X (A.get (FW M X.last))).way else false
def Bd (M:JY) (A:AR) (X:JU):JU:=if X.way then Bj M X (A.get (FW M X.last)) else X
def D9 (M:JY) (A:AR) (X:JU):AR:=if X.way then A.load (FW M X.last) else A
theorem Do (h:BX w B M X) (hA:aj w B.ab wb A):Calls prog 298 #[some B.kb] w fun e w'=>e= .returned (.bool (DX M A X))∧BX w' B M (Bd M A X)∧aj w' B.ab wb (D9 M A X)∧ae [B.kb,B.ab,wb] w w':=by
 have n1:B.kb≠B.ab:=h.box.differ hA.box aJ;have n2:B.kb≠wb:=h.box.differ hA.row aJ;have HO:=aH (ui h);cases hw:X.way with
 |false=>
  have e1:DX M A X=false:=by unfold DX;rw[hw];rfl
  have e2:Bd M A X=X:=by unfold Bd;rw[hw];rfl
  have e3:D9 M A X=A:=by unfold D9;rw[hw];rfl
  rw[e1,e2,e3];rw[hw] at HO;have H:=aH (And.intro h hA);clear h hA e1 e2 e3 hw;go_enter func298,ntmps298;go_wp2_with fail;refine HO.o.mono ?_;rintro e w' ⟨rfl,rfl⟩;go_wp2;go_ret;exact⟨rfl,H.o.1,H.o.2,aF⟩
 |true=>
  have e1:DX M A X= !(Bj M X (A.get (FW M X.last))).way:=by unfold DX;rw[hw];rfl
  have e2:Bd M A X=Bj M X (A.get (FW M X.last)):=by unfold Bd;rw[hw];rfl
  have e3:D9 M A X=A.load (FW M X.last):=by unfold D9;rw[hw];rfl
  rw[e1,e2,e3];rw[hw] at HO;have c0:=h.box.cell (i:=0) rfl;have c5:=h.box.cell (i:=5) rfl;have hq:dI w [B.ab,wb]:=fun z hz=>hA.fre (by simpa using hz);have HP:=aH (fun(W:World) (hf:ae [] w W)=>(zd (h.same hf) (hA.frm hf aS aS) X.last).mono (fun e w' q=>(show e= .returned (A.get (FW M X.last):Int)∧aj w' B.ab wb (A.load (FW M X.last))∧ae [B.ab,wb] w w' from⟨q.1,q.2.1,(hf.mono aS).trans q.2.2⟩)));have HQ:=aH (fun(W:World) (hf:ae [B.ab,wb] w W)=>Gh (h.stays hf hq aQ) (A.get (FW M X.last)));clear hq;have H:=aH (And.intro h hA);unfold mO.f at c0;clear h hA e1 e2 e3 hw;go_enter func298,ntmps298;go_wp2_with fail;refine HO.o.mono ?_;rintro e w' ⟨rfl,rfl⟩;go_wp2_with fail;go_region_with(first|(go_at_call 105;refine(HP.o _ aD).mono ?_;rintro e w1 ⟨rfl,hA1,hF⟩;have HA:=aH hA1;have HF:=aH hF;clear hA1 hF)|(go_at_call 301;refine(HQ.o _ (HF.o.mono aS)).mono ?_;rintro e w2 ⟨rfl,hS,hG⟩;have HS:=aH hS;have HG:=aH hG;clear hS hG))
  all_goals(go_wp2;go_ret;exact⟨rfl,HS.o,HA.o.frm HG.o aQ aQ,(HF.o.mono (S':=[B.kb,B.ab,wb]) aS).trans (HG.o.mono aS)⟩)
end
section
variable{p:LP} {b:iH p} {w w':World} {s:p.σ} {i:Int} {k:Nat}
structure iH.Cnt (b:iH p):Prop where
 mCount:∀F w,(method (F+3) b.T b.q "Count").run prog w= .ok (b.nCount,b.rCount) w
 eCount:∀args w,(callFunc b.nCount args).run prog w= .ok (.enter b.nCount args) w
 cCount:∀w s i,b.At w s→eO p i→Calls prog b.nCount #[b.rCount,.int .i64 i] w fun e w'=>e= .returned (p.cnt s i:Int)∧ae [] w w'
theorem tm (h:b.Ok) (hI:p.I k s) (ha:b.At w s) (hi:eO p i):Calls prog 232 #[.agg #[.iface b.T b.q],i,false] w fun e w'=>e= .returned (.bool (p.askR s i false))∧b.At w' (p.askS s i false)∧ae b.Z w w':=by
 have hF0:ae [] w (w.alloc (.cells #[.iface b.T b.q] 171)):=aF.alloc _;have HC:=aH (h.cAsk _ _ _ _ hI (h.same ha hF0) hi);have hm:∀w,(method 437 b.T b.q "Ask").run prog w= .ok (b.nAsk,b.rAsk) w:=h.mAsk 434;have he:=h.eAsk;have HF0:=aH (hF0.mono (S':=b.Z) aS);have hnot:= @aX prog;clear h ha hi hF0 hI;go_enter func232,ntmps232;go_wp2_with fail;refine HC.o.mono ?_;rintro e w1 ⟨rfl,hA,hF⟩;have HA:=aH hA;have HF:=aH (HF0.o.trans hF);clear hA hF;go_wp2;go_ret;exact⟨rfl,HA.o,HF.o⟩
def iH.counted (b:iH p) (kind:Int):LB p where
 T:=171
 v:=.agg #[.iface b.T b.q]
 Z:=b.Z
 ab:=b.ab
 wb:=b.wb
 kind:=kind
 At:=b.At
 nAsk:=232
 rAsk:=.agg #[.iface b.T b.q]
 nLeave:=b.nLeave
 rLeave:=b.rLeave
 nStep:=b.nStep
 rStep:=b.rStep
 nSpot:=b.nSpot
 rSpot:=b.rSpot
 nCount:=b.nCount
 rCount:=b.rCount
theorem eZ (F:Nat) (T:TypeId) (q:Value) (w:World):(method (F+4) 171 (.agg #[.iface T q]) "Leave").run prog w=(method (F+3) T q "Leave").run prog w∧(method (F+4) 171 (.agg #[.iface T q]) "Step").run prog w=(method (F+3) T q "Step").run prog w∧(method (F+4) 171 (.agg #[.iface T q]) "Spot").run prog w=(method (F+3) T q "Spot").run prog w∧(method (F+4) 171 (.agg #[.iface T q]) "Count").run prog w=(method (F+3) T q "Count").run prog w:=⟨by kernel_rfl,by kernel_rfl,by kernel_rfl,by kernel_rfl⟩
theorem iH.Ok.counted_ok (h:b.Ok) (hc:b.Cnt) (kind:Int) (hk:kind<11):(b.counted kind).Ok where
 n32:=h.n32
 mAsk:=fun F w=>by kernel_rfl
 mLeave:=fun F w=>(eZ F b.T b.q w).1.trans (h.mLeave F w)
 mStep:=fun F w=>(eZ F b.T b.q w).2.1.trans (h.mStep F w)
 mSpot:=fun F w=>(eZ F b.T b.q w).2.2.1.trans (h.mSpot F w)
 mCount:=fun F w=>(eZ F b.T b.q w).2.2.2.trans (hc.mCount F w)
 eAsk:=fun args w=>by kernel_rfl
 eLeave:=h.eLeave
 eStep:=h.eStep
 eSpot:=h.eSpot
 eCount:=hc.eCount
 cAsk:=fun w k s i r hI ha hi hr=>by
  cases r with
  |false=>exact tm h hI ha hi
  |true=>have:=hr rfl;rw[h.sh] at this;simp at this
 cLeave:=h.cLeave
 cStep:=h.cStep
 cSpot:=h.cSpot
 cCount:=hc.cCount
 shares:=fun w=>by
  have:=jj kind w;rw[decide_eq_false (show¬11≤kind by omega),Bool.false_and] at this;rw[h.sh];exact this
 ar:=h.ar
 free:=h.free
 stay:=h.stay
 ext:=h.ext
end
structure Kj (K:CK) (S S':CS):Prop where
 A:S.A=S'.A
 g:∀j,j<K.G.n→∀t,t<4→S.GS j t=S'.GS j t
 l:∀v,v<K.E→∀j,j<(K.L v).n→∀t,t<4→S.LS v j t=S'.LS v j t
 t:∀j,j<K.n→∀t,t<4→S.TS j t=S'.TS j t
theorem bi {n:Nat} {S S':Nat→Nat→Int} (h:∀j,j<n→∀t,t<4→S j t=S' j t):cq n S=cq n S':=by
 unfold cq;refine List.map_congr_left fun j hj=>?_;have:=List.mem_range.1 hj;rw[h (j/4) aO (j%4) aO]
theorem bQ.ext {w:World} {fb lb sb ab wb:Nat} {A:AR} {S S':Nat→Nat→Int} {M:FK} (h:bQ w fb lb sb ab wb A S M) (e:∀j,j<M.n→∀t,t<4→S j t=S' j t):bQ w fb lb sb ab wb A S' M:=by
 have hs:=bi e;cases h with
 |tas k hb h hA=>exact .tas k hb {h with row:=hs ▸ h.row} hA
 |ticket k hb h hA=>exact .ticket k hb {h with row:=hs ▸ h.row} hA
 |parted k hb h=>exact .parted k hb {h with row:=hs ▸ h.row}
 |mcs k hb h=>exact .mcs k hb {h with row:=hs ▸ h.row}
 |clh X k hb h=>exact .clh X k hb {h with row:=by rw[←hs];exact h.row}
theorem AA.ext {w:World} {B:CB} {K:CK} {S S':CS} (h:AA w B K S) (e:Kj K S S'):AA w B K S':=by
 have h1:=h.glo.ext e.g;rw[e.A] at h1;exact{box:=h.box,tab:=h.tab,glo:=h1,nod:=h.nod,loc:=fun v hv=>by have h2:=(h.loc v hv).ext (e.l v hv);rw[e.A] at h2;exact h2,row:=by rw[←bi e.t];exact h.row,dif:=h.dif,ok:=h.ok}
def gF (K:CK):LP where
 σ:=CS
 n:=K.n
 shares:=false
 ar:=fun s=>s.A
 I:=fun _ s=>Ax K s
 askR:=fun s i _=>ah K.n s.TS i 0
 askS:=fun s i _=>B4 K s i
 leaveR:=fun s i=>ah K.n s.TS i 10
 leaveS:=fun s i=>Am K s i
 stepR:=fun s i=>Ab K s i
 stepS:=fun s i=>AN K s i
 sp:=fun s i t=>s.TS i.toNat t
 cnt:=fun s i=>Fu K s i
 eqv:=Kj K
theorem yz (K:CK):(gF K).Ok:=LP.keep_of (fun k s hk h=>h) (fun k s j r hk h hj _=>h.ask _) (fun k s j hk h hj=>h.leave _) (fun k s j hk h hj=>h.step _)
section
variable{w w':World} {B:CB} {K:CK} {S:CS}
theorem IR.fre {g:Nat} {v:Value} {zs:List Int} (h:IR w g v zs) {Z:List Nat} (hf:ae Z w w') (hz:dI w Z):IR w' g v zs:=by
 have h0:=h;obtain⟨_,_,_,hh,_⟩:=h;exact h0.frm hf (hz.not hh)
theorem gh.fre {tb:Nat} {P T:List Int} (h:gh w tb P T) {Z:List Nat} (hf:ae Z w w') (hz:dI w Z):gh w' tb P T:=by
 obtain⟨vp,vt,vup,vnode,vslot,vm,gt,gn,gs,gm,h1,h2,h3,h4,h5⟩:=h;exact⟨vp,vt,vup,vnode,vslot,vm,gt,gn,gs,gm,h1.frm hf (hz.not h1),h2.fre hf hz,h3.fre hf hz,h4.fre hf hz,h5.fre hf hz⟩
theorem AA.stays (h:AA w B K S) {Z:List Nat} (hf:ae Z w w') (hz:dI w Z) (hn:∀z∈Z,z∉CZ B K):AA w' B K S:=by
 obtain⟨cells,hnd,hc⟩:=h.nod;exact{box:=h.box.frm hf (hz.not h.box),tab:=h.tab.fre hf hz,glo:=h.glo.stays hf hz (fun z h1 h2=>hn z h1 (A9.2 (by simp at h2;rcases h2 with e|e|e;exact .inr (.inl e);exact .inr (.inr (.inl e));exact .inr (.inr (.inr (.inl e)))))),nod:=⟨cells,hnd.frm hf (hz.not hnd),hc⟩,loc:=fun v hv=>(h.loc v hv).stays hf hz (fun z h1 h2=>hn z h1 (A9.2 (by simp at h2;rcases h2 with e|e|e;exact .inr (.inr (.inr (.inr ⟨v,hv,e.symm⟩)));exact .inr (.inr (.inl e));exact .inr (.inr (.inr (.inl e)))))),row:=h.row.frm hf (fun hm=>hn _ hm (A9.2 (.inl rfl))),dif:=h.dif,ok:=h.ok}
theorem AA.free (h:AA w B K S):dI w (CZ B K):=by
 intro z hz;rcases A9.1 hz with e|e|e|e|⟨v,hv,e⟩
 ·subst e;exact⟨_,_,h.row,by decide⟩
 ·subst e;obtain⟨_,hr⟩:=h.glo.srow;exact⟨_,_,hr,by decide⟩
 ·exact h.glo.ar.fre (.inl e)
 ·exact h.glo.ar.fre (.inr e)
 ·subst e;obtain⟨_,hr⟩:=(h.loc v hv).srow;exact⟨_,_,hr,by decide⟩
def gA (K:CK) (B:CB):iH (gF K) where
 T:=167
 q:=.pointer (some ⟨B.cb,0,none⟩)
 Z:=CZ B K
 ab:=B.ab
 wb:=B.wb
 At:=fun w s=>AA w B K s
 nAsk:=219
 rAsk:=.pointer (some ⟨B.cb,0,none⟩)
 nLeave:=221
 rLeave:=.pointer (some ⟨B.cb,0,none⟩)
 nStep:=223
 rStep:=.pointer (some ⟨B.cb,0,none⟩)
 nSpot:=222
 rSpot:=.pointer (some ⟨B.cb,0,none⟩)
 nCount:=220
 rCount:=.pointer (some ⟨B.cb,0,none⟩)
theorem gD (hn:K.n≤32):(gA K B).Ok where
 n32:=hn
 sh:=rfl
 mAsk:=fun F w=>by kernel_rfl
 mLeave:=fun F w=>by kernel_rfl
 mStep:=fun F w=>by kernel_rfl
 mSpot:=fun F w=>by kernel_rfl
 eAsk:=fun args w=>by kernel_rfl
 eLeave:=fun args w=>by kernel_rfl
 eStep:=fun args w=>by kernel_rfl
 eSpot:=fun args w=>by kernel_rfl
 cAsk:=fun w k s i hI ha hi=>Hf ha i
 cLeave:=fun w k s i hI ha hi=>FE ha i
 cStep:=fun w k s i hI ha hi=>Fx ha hI i
 cSpot:=fun w s i ha hi=>(Fw ha i).mono (fun e w' ⟨h1,h2⟩=>⟨by
  rw[h1];unfold dq d9;rw[if_pos (show aZ K.n i=true from decide_eq_true hi)];rfl,h2⟩)
 ar:=fun w s ha=>AA.ar ha
 free:=fun w s ha=>AA.free ha
 stay:=fun w w' s S ha hf hs hz=>AA.stays ha hf hs hz
 ext:=fun w s s' e h=>AA.ext h e
theorem dC:(gA K B).Cnt where
 mCount:=fun F w=>by kernel_rfl
 eCount:=fun args w=>by kernel_rfl
 cCount:=fun w s i ha hi=>Iy ha i
end
structure Ca where
 P:List Int
 T:List Int
 tail:Nat
 uf:Nat
 delay:Int
def Ca.n (M:Ca):Nat:=M.T.length
def Ca.nd (M:Ca) (th:Nat):Nat:=jl M.P (M.T[th]?.getD 0)
structure Dc where
 A:AR
 S:Nat→Nat→Int
 D:Nat→Nat
structure Gj where
 lb:Nat
 tb:Nat
 ub:Nat
 sb:Nat
 ab:Nat
 wb:Nat
structure AH (w:World) (B:Gj) (M:Ca) (X:Dc):Prop where
 box:am w B.lb [some B.ab,some B.tb,M.tail,some B.ub,M.delay,.slice (some ⟨B.sb,0,none⟩) M.n M.n] 220
 tab:gh w B.tb M.P M.T
 tr:∃m,kU w B.ub B.ab M.uf M.n X.D m
 row:am w B.sb (cq M.n X.S) 138
 ar:aj w B.ab B.wb X.A
 ok:du M.P M.T
 tl:M.tail≤4096
section
variable{w w':World} {B:Gj} {M:Ca} {X:Dc}
theorem AH.n32 (h:AH w B M X):M.n≤32:=h.ok.size.2.2.2
theorem AH.ne (h:AH w B M X):B.ub≠B.sb∧B.ub≠B.ab∧B.ub≠B.wb∧B.sb≠B.ab∧B.sb≠B.wb:=by
 obtain⟨m,ht⟩:=h.tr;exact⟨ht.box.differ h.row aJ,ht.box.differ h.ar.box aJ,ht.box.differ h.ar.row aJ,h.row.differ h.ar.box aJ,h.row.differ h.ar.row aJ⟩
theorem AH.free (h:AH w B M X):dI w [B.ub,B.sb,B.ab,B.wb]:=fun z hz=>by
 have hz':z=B.ub∨z=B.sb∨z=B.ab∨z=B.wb:=by simpa using hz
 rcases hz' with e|e|e
 ·subst e;obtain⟨m,ht⟩:=h.tr;exact⟨_,_,ht.box,by decide⟩
 ·subst e;exact⟨_,_,h.row,by decide⟩
 ·exact h.ar.fre e
theorem AH.re (h:AH w B M X) {Z:List Nat} (hf:ae Z w w') (hz:∀z∈Z,z∈[B.ub,B.sb,B.ab,B.wb]) {X':Dc} (h1:∃m,kU w' B.ub B.ab M.uf M.n X'.D m) (h2:am w' B.sb (cq M.n X'.S) 138) (h3:aj w' B.ab B.wb X'.A):AH w' B M X':=
 have hq:dI w Z:=h.free.sub hz
 {box:=h.box.frm hf (hq.not h.box),tab:=h.tab.fre hf hq,tr:=h1,row:=h2,ar:=h3,ok:=h.ok,tl:=h.tl}
theorem AH.stays (h:AH w B M X) {Z:List Nat} (hf:ae Z w w') (hq:dI w Z) (hn:∀z∈Z,z∉[B.ub,B.sb,B.ab,B.wb]):AH w' B M X:=by
 have hx:∀z,z∈[B.ub,B.sb,B.ab,B.wb]→z∉Z:=fun z h1 h2=>hn z h2 h1;obtain⟨m,ht⟩:=h.tr;exact{box:=h.box.frm hf (hq.not h.box),tab:=h.tab.fre hf hq,tr:=⟨m,ht.frm hf (hx _ aS)⟩,row:=h.row.frm hf (hx _ aS),ar:=h.ar.frm hf (hx _ aS) (hx _ aS),ok:=h.ok,tl:=h.tl}
theorem AH.same (h:AH w B M X) (hf:ae [] w w'):AH w' B M X:=h.stays hf (dI.nil _) aS
theorem AH.arena (h:AH w B M X) {A':AR} (hf:ae [B.ab,B.wb] w w') (hA:aj w' B.ab B.wb A'):AH w' B M {X with A:=A'}:=by
 have hn:=h.ne;obtain⟨m,ht⟩:=h.tr;exact h.re hf aS ⟨m,ht.frm hf aQ⟩ (h.row.frm hf aQ) hA
theorem AH.put (h:AH w B M X) (j:Nat) {t:Nat} (ht:t<4) (v:Int):AH (w.setCell (B.sb,j*4+t) (.int .i64 v)) B M {X with S:=ac X.S j t v}:=by
 have hf:ae [B.sb] w (w.setCell (B.sb,j*4+t) (.int .i64 v)):=aU;have hn:=h.ne;have hr:=h.row.set (j*4+t) (.int .i64 v);rw[dP M.n X.S ht v] at hr;obtain⟨m,hm⟩:=h.tr;exact h.re hf aS ⟨m,hm.frm hf aQ⟩ hr (h.ar.frm hf aQ aQ)
theorem I1 (h:AH w B M X):Calls prog 258 #[some B.lb] w fun e w'=>e= .returned M.n∧w=w':=by
 have c5:=h.box.cell (i:=5) rfl;clear h;go_enter func258,ntmps258;go_wp2;go_ret;exact⟨rfl,rfl⟩
theorem GJ (h:AH w B M X) {j:Nat} (hj:j<M.n):Calls prog 256 #[some B.lb,j] w fun e w'=>e= .returned (.agg #[(X.S j 0:Int),(X.S j 1:Int),(X.S j 2:Int),(X.S j 3:Int)])∧ae [] w w':=by
 have hF:ae [] w (w.alloc (.cells #[(0:Int),(0:Int),(0:Int),(0:Int)] 138)):=aF.alloc _;have h2:=h.same hF;have HT:=aH (I1 h2);have c5:=h2.box.cell (i:=5) rfl;have j0:=h2.row.cell (ag M.n X.S (t:=0) hj aO);have j1:=h2.row.cell (ag M.n X.S (t:=1) hj aO);have j2:=h2.row.cell (ag M.n X.S (t:=2) hj aO);have j3:=h2.row.cell (ag M.n X.S (t:=3) hj aO);rw[Nat.add_zero] at j0;have hn:=h.n32;obtain⟨d1,d2,d3⟩:=aI (j:=j) (n:=M.n);have l1:(j:Int)<M.n:=by omega
 have HF:=aH hF;generalize X.S j 0=a0 at*;generalize X.S j 1=a1 at*;generalize X.S j 2=a2 at*;generalize X.S j 3=a3 at*;clear h h2 hF;go_enter func256,ntmps256;go_wp2_with fail;refine HT.o.mono ?_;rintro e w' ⟨rfl,rfl⟩;go_wp2_with fail;exact bodyPost_ret (v:=.agg #[a0,a1,a2,a3]) (by simp[results,results256,go_sem]) rfl ⟨rfl,aF.alloc _⟩
theorem bB (h:AH w B M X) {j:Nat} (hj:j<M.n) (fr tt:Int):Calls prog 259 #[some B.lb,j,fr,tt] w fun e w'=>e= .returned (.bool (ah M.n X.S j fr))∧AH w' B M {X with S:=a8 M.n X.S j fr tt}∧ae [B.sb] w w':=by
 have H:=aH h;have HT:=aH (I1 h);have c5:=h.box.cell (i:=5) rfl;have j0:=h.row.cell (ag M.n X.S (t:=0) hj aO);rw[Nat.add_zero] at j0;have hn:=h.n32;obtain⟨d1,d2,d3⟩:=aI (j:=j) (n:=M.n);have l1:(j:Int)<M.n:=by omega
 have hs:=bP hj;by_cases hq:X.S j 0=fr
 ·have e1:ah M.n X.S j fr=true:=by unfold ah;rw[hs,Int.toNat_natCast,hq];simp
  have e2:a8 M.n X.S j fr tt=ac X.S j 0 tt:=by unfold a8;rw[e1,if_pos rfl,Int.toNat_natCast]
  rw[e1,e2];rw[hq] at j0;have jz:=h.row.frozen;have HP:=aH (h.put j (t:=0) aO tt);rw[Nat.add_zero] at HP;have HF:=aH ((ae.refl [B.sb] w).set ⟨B.sb,j*4,none⟩ (.int .i64 tt) (.inl aS));clear h e1 e2 hq hs;go_enter func259,ntmps259;go_wp2_with fail;refine HT.o.mono ?_;rintro e w' ⟨rfl,rfl⟩;go_wp2;go_ret;exact⟨rfl,HP.o,HF.o⟩
 ·have e1:ah M.n X.S j fr=false:=by unfold ah;rw[hs,Int.toNat_natCast];simpa using hq
  have e2:a8 M.n X.S j fr tt=X.S:=by unfold a8;rw[e1];rfl
  rw[e1,e2];have e3:(X.S j 0 !=fr)=true:=by simpa using hq
  generalize X.S j 0=q at*;clear h e1 e2 hq hs;go_enter func259,ntmps259;go_wp2_with fail;refine HT.o.mono ?_;rintro e w' ⟨rfl,rfl⟩;go_wp2;go_ret;exact⟨rfl,H.o,aF⟩
theorem ww (h:AH w B M X) {j:Nat} (hj:j<M.n):Calls prog 254 #[some B.lb,j] w fun e w'=>e= .returned (.bool (ah M.n X.S j 0))∧AH w' B M {X with S:=a8 M.n X.S j 0 1}∧ae [B.sb] w w':=by
 have HT:=aH (bB h hj 0 1);clear h hj;go_enter func254,ntmps254;go_wp2_with fail;refine HT.o.mono ?_;rintro e w' ⟨rfl,hK,hF⟩;have HK:=aH hK;have HF:=aH hF;clear hK hF;go_wp2;go_ret;exact⟨rfl,HK.o,HF.o⟩
theorem mu (h:AH w B M X) {j:Nat} (hj:j<M.n):Calls prog 255 #[some B.lb,j] w fun e w'=>e= .returned (.bool (ah M.n X.S j 10))∧AH w' B M {X with S:=a8 M.n X.S j 10 11}∧ae [B.sb] w w':=by
 have HT:=aH (bB h hj 10 11);clear h hj;go_enter func255,ntmps255;go_wp2_with fail;refine HT.o.mono ?_;rintro e w' ⟨rfl,hK,hF⟩;have HK:=aH hK;have HF:=aH hF;clear hK hF;go_wp2;go_ret;exact⟨rfl,HK.o,HF.o⟩
end
structure Ak where
 K:CK
 gf:Nat
 fl:Nat
def Ak.n (M:Ak):Nat:=M.K.n
structure AS where
 C:CS
 D:DR
 S:Nat→Nat→Int
structure B3 where
 lb:Nat
 tb:Nat
 gb:Nat
 db:Nat
 sb:Nat
 co:CB
def Ip (T:TypeId):Prop:=T=258∨T=263∨T=265
structure A3 (T:TypeId) (w:World) (B:B3) (M:Ak) (X:AS):Prop where
 ty:Ip T
 box:am w B.lb [some B.co.ab,some B.tb,some B.gb,some B.db,M.fl,some B.co.cb,.slice (some ⟨B.sb,0,none⟩) M.n M.n] T
 tab:gh w B.tb M.K.P M.K.T
 gg:j6 w B.gb B.co.ab M.gf M.K.E
 dr:ee w B.db (some ⟨B.gb,0,none⟩) X.D
 co:AA w B.co M.K X.C
 row:am w B.sb (cq M.n X.S) 138
 dif:B.sb∉CZ B.co M.K
def AY (B:B3) (K:CK):List Nat:=B.sb::B.db::CZ B.co K
theorem AA.arenaD {w w':World} {B:CB} {K:CK} {S:CS} {db:Nat} (h:AA w B K S) {A':AR} (hf:ae [db,B.ab,B.wb] w w') (hq:dI w [db,B.ab,B.wb]) (hd:db∉CZ B K) (hA:aj w' B.ab B.wb A'):AA w' B K {S with A:=A'}:=by
 have hd':∀z,z∈CZ B K→z≠db:=fun z hz e=>hd (e ▸ hz);obtain⟨cells,hn,hc⟩:=h.nod;have n1:=h.row.differ h.ar.box aJ;have n2:=h.row.differ h.ar.row aJ;exact{box:=h.box.frm hf (hq.not h.box),tab:=h.tab.fre hf hq,glo:=(by have:=h.glo.apart;have:=hd' B.gs (A9.2 aS);exact h.glo.re hf (h.glo.lfre hq).1 (h.glo.lfre hq).2 aQ hA),nod:=⟨cells,hn.frm hf (hq.not hn),hc⟩,loc:=fun v hv=>(by have:=(h.loc v hv).apart;have:=hd' (B.sb v) (A9.2 (.inr (.inr (.inr (.inr ⟨v,hv,rfl⟩)))));exact(h.loc v hv).re hf ((h.loc v hv).lfre hq).1 ((h.loc v hv).lfre hq).2 aQ hA),row:=h.row.frm hf (by have:=hd' B.cs (A9.2 aS);simp;omega),dif:=h.dif,ok:=h.ok}
section
variable{T:TypeId} {w w':World} {B:B3} {M:Ak} {X:AS}
theorem Ip.free (h:Ip T):T∉sZ:=by rcases h with rfl|rfl|rfl<;>decide
theorem A3.n32 (h:A3 T w B M X):M.n≤32:=h.co.n32.1
theorem A3.dbZ (h:A3 T w B M X):B.db∉CZ B.co M.K:=fun hm=>by
 rcases A9.1 hm with e|e|e|e|⟨v,hv,e⟩
 ·exact h.dr.differ h.co.row aJ e
 ·obtain⟨_,q⟩:=h.co.glo.srow;exact h.dr.differ q aJ e
 ·exact h.dr.differ h.co.ar.box aJ e
 ·exact h.dr.differ h.co.ar.row aJ e
 ·obtain⟨_,q⟩:=(h.co.loc v hv).srow;exact h.dr.differ q aJ e.symm
theorem A3.free (h:A3 T w B M X):dI w (AY B M.K):=fun z hz=>by
 rcases List.mem_cons.1 hz with e|hz
 ·subst e;exact⟨_,_,h.row,by decide⟩
 ·rcases List.mem_cons.1 hz with e|hz
  ·subst e;exact⟨_,_,h.dr,by decide⟩
  ·exact h.co.free z hz
theorem A3.sd (h:A3 T w B M X):B.sb≠B.db:=h.row.differ h.dr aJ
theorem A3.re (h:A3 T w B M X) {Z:List Nat} (hf:ae Z w w') (hq:dI w Z) {X':AS} (h1:ee w' B.db (some ⟨B.gb,0,none⟩) X'.D) (h2:AA w' B.co M.K X'.C) (h3:am w' B.sb (cq M.n X'.S) 138):A3 T w' B M X':=
 {ty:=h.ty,box:=h.box.frm hf (hq.not h.box h.ty.free),tab:=h.tab.fre hf hq,gg:={h.gg with box:=h.gg.box.frm hf (hq.not h.gg.box)},dr:=h1,co:=h2,row:=h3,dif:=h.dif}
theorem A3.stays (h:A3 T w B M X) {Z:List Nat} (hf:ae Z w w') (hq:dI w Z) (hn:∀z∈Z,z∉AY B M.K):A3 T w' B M X:=by
 have hx:∀z,z∈AY B M.K→z∉Z:=fun z h1 h2=>hn z h2 h1;exact h.re hf hq (h.dr.frm hf (hx _ (by simp[AY]))) (h.co.stays hf hq (fun z hz hm=>hn z hz (by simp[AY,hm]))) (h.row.frm hf (hx _ (by simp[AY])))
theorem A3.same (h:A3 T w B M X) (hf:ae [] w w'):A3 T w' B M X:=h.stays hf (dI.nil _) aS
theorem A3.coh (h:A3 T w B M X) {C:CS} (hf:ae (CZ B.co M.K) w w') (hC:AA w' B.co M.K C):A3 T w' B M {X with C:=C}:=
 h.re hf h.co.free (h.dr.frm hf h.dbZ) hC (h.row.frm hf h.dif)
theorem A3.arena (h:A3 T w B M X) {A:AR} (hf:ae [B.co.ab,B.co.wb] w w') (hA:aj w' B.co.ab B.co.wb A):A3 T w' B M {X with C:={X.C with A:=A}}:=
 h.coh (hf.mono (fun z hz=>A9.2 (by simp at hz;omega))) (h.co.arena hf hA)
theorem A3.put (h:A3 T w B M X) (j:Nat) {t:Nat} (ht:t<4) (v:Int):A3 T (w.setCell (B.sb,j*4+t) (.int .i64 v)) B M {X with S:=ac X.S j t v}:=by
 have hf:ae [B.sb] w (w.setCell (B.sb,j*4+t) (.int .i64 v)):=aU;have hq:dI w [B.sb]:=dI.one h.row;refine h.re hf hq (h.dr.frm hf (by have:=h.sd;simp;omega)) (h.co.stays hf hq (fun z hz hm=>h.dif (by simp at hz;rwa [hz] at hm))) ?_;have:=h.row.set (j*4+t) (.int .i64 v)
 rwa [dP M.n X.S ht v] at this
theorem A3.drain (h:A3 T w B M X) {D:DR} (hf:ae [B.db] w w') (hD:ee w' B.db (some ⟨B.gb,0,none⟩) D):A3 T w' B M {X with D:=D}:=by
 have hq:dI w [B.db]:=dI.one h.dr;exact h.re hf hq hD (h.co.stays hf hq (fun z hz hm=>h.dbZ (by simp at hz;rwa [hz] at hm))) (h.row.frm hf (by have:=h.sd;simp;omega))
theorem Ii {z:Nat} {K:CK} (hz:z∈CZ B.co K):z∈AY B K:=by simp[AY,hz]
theorem FA {z:Nat} {K:CK} (hz:z∈[B.co.ab,B.co.wb]):z∈AY B K:=Ii (A9.2 (by simp at hz;omega))
theorem A3.cells (h:A3 T w B M X):w.cell? (B.lb,0)=some (.pointer (some ⟨B.co.ab,0,none⟩))∧w.cell? (B.lb,1)=some (.pointer (some ⟨B.tb,0,none⟩))∧w.cell? (B.lb,2)=some (.pointer (some ⟨B.gb,0,none⟩))∧w.cell? (B.lb,3)=some (.pointer (some ⟨B.db,0,none⟩))∧w.cell? (B.lb,4)=some (.int .i64 M.fl)∧w.cell? (B.lb,5)=some (.pointer (some ⟨B.co.cb,0,none⟩))∧w.cell? (B.lb,6)=some (.slice (some ⟨B.sb,0,none⟩) M.n M.n):=
 ⟨h.box.cell (i:=0) rfl,h.box.cell (i:=1) rfl,h.box.cell (i:=2) rfl,h.box.cell (i:=3) rfl,h.box.cell (i:=4) rfl,h.box.cell (i:=5) rfl,h.box.cell (i:=6) rfl⟩
theorem A3.sp (h:A3 T w B M X) {j:Nat} (hj:j<M.n):w.cell? (B.sb,j*4)=some (.int .i64 (X.S j 0))∧w.cell? (B.sb,j*4+1)=some (.int .i64 (X.S j 1))∧w.cell? (B.sb,j*4+2)=some (.int .i64 (X.S j 2))∧w.cell? (B.sb,j*4+3)=some (.int .i64 (X.S j 3)):=
 ⟨h.row.cell (ag M.n X.S (t:=0) hj aO),h.row.cell (ag M.n X.S (t:=1) hj aO),h.row.cell (ag M.n X.S (t:=2) hj aO),h.row.cell (ag M.n X.S (t:=3) hj aO)⟩
theorem A3.sp0 (h:A3 T w B M X) {j:Nat} (hj:j<M.n) {v:Int} (e:X.S j 0=v):w.cell? (B.sb,j*4)=some (.int .i64 v):=by rw[←e];exact(h.sp hj).1
theorem A3.put0 (h:A3 T w B M X) (j:Nat) (v:Int):A3 T (w.setCell (B.sb,j*4) (.int .i64 v)) B M {X with S:=ac X.S j 0 v}:=by
 have:=h.put j (t:=0) aO v
 rwa [Nat.add_zero] at this
theorem A3.frm0 (K:CK) {o:Nat} {v:Value}:ae (AY B K) w (w.setCell (B.sb,o) v):=aF.set _ _ (.inl (by simp[AY]))
def DZ (S:Nat→Nat→Int) (j:Nat) (a b:Int):Nat→Nat→Int:=ac (ac (ac (ac S j 0 a) j 1 b) j 2 0) j 3 0
theorem A3.put4 (h:A3 T w B M X) (j:Nat) (a b:Int):A3 T ((((w.setCell (B.sb,j*4) (.int .i64 a)).setCell (B.sb,j*4+1) (.int .i64 b)).setCell (B.sb,j*4+2) (.int .i64 0)).setCell (B.sb,j*4+3) (.int .i64 0)) B M {X with S:=DZ X.S j a b}∧ae (AY B M.K) w ((((w.setCell (B.sb,j*4) (.int .i64 a)).setCell (B.sb,j*4+1) (.int .i64 b)).setCell (B.sb,j*4+2) (.int .i64 0)).setCell (B.sb,j*4+3) (.int .i64 0)):=
 ⟨(((h.put0 j a).put j (t:=1) aO b).put j (t:=2) aO 0).put j (t:=3) aO 0,((A3.frm0 M.K).trans (A3.frm0 M.K)).trans ((A3.frm0 M.K).trans (A3.frm0 M.K))⟩
theorem pQ (S:Nat→Nat→Int) (j:Nat) (a b c d:Int):DZ (DZ S j a b) j c d=DZ S j c d:=by
 funext x y
 simp only[DZ,ac]
 repeat' split
 all_goals first|rfl|omega
abbrev AP (T:TypeId) (B:B3) (M:Ak) (f:FuncId) (args:Array Value) (w:World) (v:Value) (X:AS):Prop:=Calls prog f args w fun e w'=>e= .returned v∧A3 T w' B M X∧ae (AY B M.K) w w'
theorem Fh (h:A3 T w B M X) (k:Int):AP T B M 344 #[some B.gb,k] w (.tuple #[]) {X with C:={X.C with A:=X.C.A.gAdd M.gf M.K.E k 0}}:=
 (sK h.gg h.co.ar k).mono fun e w' ⟨h1,h2,h3⟩=>⟨h1,h.arena h3 h2,h3.mono fun z hz=>FA hz⟩
theorem Kf (h:A3 T w B M X) (k:Int):AP T B M 345 #[some B.gb,k] w (.tuple #[]) {X with C:={X.C with A:=X.C.A.gAdd M.gf M.K.E k 1}}:=
 (xi h.gg h.co.ar k).mono fun e w' ⟨h1,h2,h3⟩=>⟨h1,h.arena h3 h2,h3.mono fun z hz=>FA hz⟩
theorem Id (h:A3 T w B M X) (i:Int):AP T B M 219 #[some B.co.cb,i] w (.bool (ah M.K.n X.C.TS i 0)) {X with C:=B4 M.K X.C i}:=
 (Hf h.co i).mono fun e w' ⟨h1,h2,h3⟩=>⟨h1,h.coh h3 h2,h3.mono fun z hz=>Ii hz⟩
theorem Gf (h:A3 T w B M X) (i:Int):AP T B M 221 #[some B.co.cb,i] w (.bool (ah M.K.n X.C.TS i 10)) {X with C:=Am M.K X.C i}:=
 (FE h.co i).mono fun e w' ⟨h1,h2,h3⟩=>⟨h1,h.coh h3 h2,h3.mono fun z hz=>Ii hz⟩
theorem DT (h:A3 T w B M X) (hp:Ax M.K X.C) (i:Int):AP T B M 223 #[some B.co.cb,i] w (.bool (Ab M.K X.C i)) {X with C:=AN M.K X.C i}:=
 (Fx h.co hp i).mono fun e w' ⟨h1,h2,h3⟩=>⟨h1,h.coh h3 h2,h3.mono fun z hz=>Ii hz⟩
theorem Fg (h:A3 T w B M X) (a b:Int) (o:Bool):AP T B M 346 #[some B.db,a,b,o] w (.bool (decide (b≤a))) {X with D:=X.D.begins a b o}:=
 (tD h.dr a b o).mono fun e w' ⟨h1,h2,h3⟩=>⟨h1,h.drain h3 h2,h3.mono (by simp[AY])⟩
def C3 (M:Ak) (X:AS):AS:=⟨{X.C with A:=X.C.A.dStep M.gf M.K.E X.D},X.D.step (X.C.A.gGet M.gf M.K.E X.D.at_ 1) (X.C.A.gGet M.gf M.K.E X.D.at_ 0),X.S⟩
def DV (M:Ak) (X:AS):Bool:=X.D.stepR (X.C.A.gGet M.gf M.K.E X.D.at_ 0)
theorem DU (h:A3 T w B M X):AP T B M 347 #[some B.db] w (.bool (DV M X)) (C3 M X):=by
 have n1:=h.dr.differ h.gg.box aJ;have n2:=h.dr.differ h.co.ar.box aJ;have n3:=h.dr.differ h.co.ar.row aJ;have n4:=h.gg.box.differ h.co.ar.box aJ;have n5:=h.gg.box.differ h.co.ar.row aJ;refine(wh h.dr h.gg h.co.ar ⟨n1,n2,n3,n4,n5⟩).mono fun e w' ⟨h1,h2,h3,h4,h5⟩=>⟨h1,?_,h5.mono fun z hz=>?_⟩
 ·have hq:dI w [B.db,B.co.ab,B.co.wb]:=fun z hz=>by
   rcases List.mem_cons.1 hz with e|hz
   ·subst e;exact⟨_,_,h.dr,by decide⟩
   ·exact h.co.ar.fre (by simpa using hz)
  have hs:=h.sd;have hz2:=h.dbZ;refine h.re (X':=C3 M X) h5 hq h2 ?_ (h.row.frm h5 (by have a1:=h.row.differ h.co.ar.box aJ;have a2:=h.row.differ h.co.ar.row aJ;simp;omega));exact AA.arenaD h.co h5 hq hz2 h3
 ·rcases List.mem_cons.1 hz with e|hz
  ·simp[AY,e]
  ·exact FA hz
theorem bf (h:A3 T w B M X):AP T B M 368 #[some B.db] w (.bool X.D.clear) X:=
 (sC h.dr).mono fun e w' ⟨h1,h2⟩=>⟨h1,h2 ▸ h,h2 ▸ aF⟩
theorem Fi (h:A3 T w B M X) (i v:Int):AP T B M 63 #[some B.co.ab,i,v] w (.tuple #[]) {X with C:={X.C with A:=X.C.A.store i v}}:=
 (au h.co.ar i v).mono fun e w' ⟨h1,h2,h3⟩=>⟨h1,h.arena h3 h2,h3.mono fun z hz=>FA hz⟩
theorem qJ (h:A3 T w B M X) (i v:Int):AP T B M 179 #[some B.co.ab,i,v] w (.int .i64 (X.C.A.addRes i v)) {X with C:={X.C with A:=X.C.A.add i v}}:=
 (iB h.co.ar i v).mono fun e w' ⟨h1,h2,h3⟩=>⟨h1,h.arena h3 h2,h3.mono fun z hz=>FA hz⟩
theorem Ie (h:A3 T w B M X) (i:Int):AP T B M 106 #[some B.co.ab,i] w (.int .i64 (X.C.A.get i)) {X with C:={X.C with A:=X.C.A.load i}}:=
 (bq h.co.ar i).mono fun e w' ⟨h1,h2,h3⟩=>⟨h1,h.arena h3 h2,h3.mono fun z hz=>FA hz⟩
end
section
variable{P T:List Int} {g l par bud:Int}
abbrev mP (P T:List Int) (g l par bud:Int):CK:=Hh P T g.toNat l.toNat par.toNat bud.toNat (AR.fresh 4096)
abbrev yu (P T:List Int) (g l par bud:Int):CS:=Fz (mP P T g l par bud) (wu P T g.toNat l.toNat par.toNat bud.toNat (AR.fresh 4096))
theorem fX (ok:du P T) (hg:1≤g∧g≤5) (hl:1≤l∧l≤5) (hp:1≤par∧par≤32) (hb:0≤bud∧bud≤1000):Bu P T g.toNat l.toNat par.toNat bud.toNat (AR.fresh 4096):=by
 have hl':(AR.fresh 4096).ws.length=4096:=List.length_replicate;have hle:=iJ P;have hs:=ok.size;exact{
  ok:=ok,g1:=by omega,g5:=by omega,l1:=by omega,l5:=by omega,p1:=by omega,p32:=by omega,b:=by omega,az:=by
   intro k _;show(List.replicate 4096 (0:Int))[k]?.getD 0=0;rw[List.getElem?_replicate];split<;>rfl,fit:=⟨by rw[hl'];show 0≤4096;omega,by rw[hl'];omega,by show(0:Int)≤0;omega,by show(0:Int)≤_;omega⟩,ops:=by show(0:Int)≤_;omega,room:=by rw[hl'];show 0+65+_≤4096;have:=hs.2.1;omega}
theorem qA (K:FK) (j:Nat):iE K j 0=0:=by unfold iE;split<;>rfl
theorem ax (K:CK) (Av:Nat→AR):Ax K (Fz K Av):=⟨fun t _=>.inl ⟨Int.le_refl _,by show(0:Int)≤4;omega⟩,fun v _ _ j _=>.inl (by rw[show(Fz K Av).LS v j 0=0 from qA _ _];omega),fun _ j _=>.inl (by rw[show(Fz K Av).GS j 0=0 from qA _ _];omega)⟩
theorem qS (hT:du P T) (hg:1≤g∧g≤5) (hl:1≤l∧l≤5) (hp:1≤par∧par≤32) (hb:0≤bud∧bud≤1000):fN P T 6 g l par bud (gF (mP P T g l par bud)) (yu P T g l par bud) where
 n:=rfl
 kd13:=by omega
 sh:=rfl
 mks:=fun w ab wb lk x y hx hy hA hL _ _=>by
  have hsch:=(fX hT hg hl hp hb).sch;have n1:=hA.lockNot hL;have HF0:=aH (((ae.refl [] w).alloc (.cells #[x,y] 24)).alloc (.cells #[g,l,par,bud] 42));have hN:=J0 (hx.frm HF0.o aS) (hy.frm HF0.o aS) hsch (hA.frm HF0.o aS aS);have eg:(mP P T g l par bud).gk=g:=by show(g.toNat:Int)=g;omega
  have el:(mP P T g l par bud).lk=l:=by show(l.toNat:Int)=l;omega
  have ep:(mP P T g l par bud).par=par:=by show(par.toNat:Int)=par;omega
  have eb:(mP P T g l par bud).bud=bud:=by show(bud.toNat:Int)=bud;omega
  rw[eg,el,ep,eb] at hN;have HN:=aH hN;have HB1:=aH ((am.new w #[x,y] 24).frm ((ae.refl [] _).alloc (.cells #[g,l,par,bud] 42)) aS);have HB2:=aH (am.new (w.alloc (.cells #[x,y] 24)) #[g,l,par,bud] 42);have HL:=aH (hL.frm HF0.o aS);have c0:=HL.o.cell (i:=0) rfl;have HT32:=aH (show(mP P T g l par bud).n≤32 from hT.size.2.2.2);have hls:=HF0.o.size;obtain⟨a1,cap1,rfl, -, -⟩:=hx;obtain⟨a2,cap2,rfl, -, -⟩:=hy;clear hA hL hsch hN eg el ep eb hg hl hp hb;go_enter func57,ntmps57;go_wp2_with fail;refine HN.o.mono ?_;rintro e w1 ⟨B,rfl,⟨hb1,hb2,hfr⟩,hC,hF⟩;have hL1:=HL.o.frm hF aQ;have l0:=hL1.cell (i:=2) rfl;have lz:=hL1.frozen;have HL1:=aH hL1;have HC:=aH hC;have HF:=aH ((HF0.o.mono (S':=[ab,wb]) aS).trans hF);have HBB:=aH (And.intro hb1 (And.intro hb2 (hfr.mono hls)));clear hF hC hL1 hb1 hb2 hfr;go_wp2;go_ret;refine⟨(gA (mP P T g l par bud) B).counted 6,(gD HT32.o).counted_ok dC 6 aO,⟨HBB.o.1,rfl⟩,rfl,⟨HL1.o.set 2 _,HC.o.lockFrm HL1.o aU⟩,fun z hz=>?_,(HF.o.mono (S':=[ab,wb,lk]) aS).set _ _ (.inl aS)⟩;obtain⟨e1,e2,e3⟩:=HBB.o;rcases A9.1 hz with e|e|e|e|⟨v,hv,e⟩
  ·rw[e];exact .inr (.inr e3.1)
  ·rw[e];exact .inr (.inr e3.2.1)
  ·rw[e];exact .inl e1
  ·rw[e];exact .inr (.inl e2)
  ·rw[←e];exact .inr (.inr (e3.2.2 v hv))
theorem Kk (hT:du P T) (hg:1≤g∧g≤5) (hl:1≤l∧l≤5) (hp:1≤par∧par≤32) (hb:0≤bud∧bud≤1000):fR P T (.agg #[(6:Int),g,l,par,bud]) (gF (mP P T g l par bud)) (yu P T g l par bud) where
 ok:=yz _
 i0:=ax _ _
 mks:=fun _ _ _ hx hy=>ey hx hy hT (qS hT hg hl hp hb)
end
end Go.Proofs.YteijjhahgabalaaGreat
