/- Topologies: the program's own parts: tree, inner, levels, leaves. -/
import Derived.Maps.AppendAt
import Derived.Test.YteijjhahgabalaaGreatWA12
set_option maxRecDepth 100000
set_option maxHeartbeats 8000000
set_option linter.all false
namespace Go.Proofs.YteijjhahgabalaaGreat
open Go.RowKit
open Tryz
theorem yV:(prog.info? 4).map (fun i=>(i.zero,i.size,i.bytes))=some (some (.bool false),1,1):=by kernel_rfl
def fA (n:Nat) (f:Nat→Int):List Value:=(List.range n).map fun i=>Value.int .i64 (f i)
def jT (n:Nat) (f:Nat→Bool):List Value:=(List.range n).map fun i=>Value.bool (f i)
theorem di {n:Nat} (f:Nat→Int) {i:Nat} (h:i<n):(fA n f)[i]? =some (.int .i64 (f i)):=by unfold fA;simp[h]
theorem rf {n:Nat} (f:Nat→Bool) {i:Nat} (h:i<n):(jT n f)[i]? =some (.bool (f i)):=by unfold jT;simp[h]
theorem oT {n:Nat} {f g:Nat→Int} {i:Nat} {v:Int} (hi:g i=v) (hg:∀k,k<n→k≠i→g k=f k):(fA n f).set i (.int .i64 v)=fA n g:=by
 apply List.ext_getElem?;intro k;rw[List.getElem?_set];unfold fA;by_cases h:k<n
 ·by_cases e:i=k
  ·subst e;simp[h,hi]
  ·simp[e,h,hg k h (fun e'=>e e'.symm)]
 ·simp[h];intro _;omega
theorem zZ {n:Nat} {f g:Nat→Bool} {i:Nat} {v:Bool} (hi:g i=v) (hg:∀k,k<n→k≠i→g k=f k):(jT n f).set i (.bool v)=jT n g:=by
 apply List.ext_getElem?;intro k;rw[List.getElem?_set];unfold jT;by_cases h:k<n
 ·by_cases e:i=k
  ·subst e;simp[h,hi]
  ·simp[e,h,hg k h (fun e'=>e e'.symm)]
 ·simp[h];intro _;omega
theorem xF (n:Nat) (hn:n≤1000000) (W:World):(Instr.makeSlice 22 (.int .i64 n) (.int .i64 n)).run prog W= .ok (.slice (some ⟨W.heap.size,0,none⟩) n n) (W.alloc (.cells (fA n (fun _=>0)).toArray 3)):=by
 obtain⟨i0,hi,hz0,hz1,hz2⟩:=info_parts iY;rw[run_make W 22 3 i0 (.int .i64 0) underlying22 hi hz0 .i64 .i64 n n aO aO (by rw[hz2];omega) aO];have e:madeCells (Value.int .i64 0).cells (((n:Int).toNat)*i0.size)=(fA n (fun _=>0)).toArray:=by
  apply Array.ext';rw[hz1];show(madeCells #[Value.int .i64 0] _).toList=_;rw[toList_madeCells_one];simp only[fA];apply List.ext_getElem?;intro i;by_cases h:i<n
  ·simp[h]
  ·simp[h]
 rw[e];simp
theorem Ex (n:Nat) (hn:n≤1000000) (W:World):(Instr.makeSlice 49 (.int .i64 n) (.int .i64 n)).run prog W= .ok (.slice (some ⟨W.heap.size,0,none⟩) n n) (W.alloc (.cells (jT n (fun _=>false)).toArray 4)):=by
 obtain⟨i0,hi,hz0,hz1,hz2⟩:=info_parts yV;rw[run_make W 49 4 i0 (.bool false) underlying49 hi hz0 .i64 .i64 n n aO aO (by rw[hz2];omega) aO];have e:madeCells (Value.bool false).cells (((n:Int).toNat)*i0.size)=(jT n (fun _=>false)).toArray:=by
  apply Array.ext';rw[hz1];show(madeCells #[Value.bool false] _).toList=_;rw[toList_madeCells_one];simp only[jT];apply List.ext_getElem?;intro i;by_cases h:i<n
  ·simp[h]
  ·simp[h]
 rw[e];simp
section
variable{w:World} {b1:Nat} {v:Value} {P:List Int}
theorem BT (hx:a7 w b1 v P) (hn:P.length≤100) (ht:gK P):Calls prog 66 #[v] w fun e w'=>e= .returned true∧w=w':=by
 obtain⟨a,cap,rfl, -,hcx⟩:=hx;have HX:=aH hcx;have HT:=aH ht;clear hcx ht;go_enter func66,ntmps66;go_wp2_with fail;go_loopw[7] (fun iv wx=>∃k:Nat,iv= .int .i64 k∧k≤P.length∧w=wx) (fun iv _=>P.length - (intOf iv).toNat)
 case atStart=>exact⟨0,rfl,by omega,rfl⟩
 case round=>
  obtain⟨k,rfl,hk,rfl⟩:=hrel;by_cases hlt:k<P.length
  ·have e0:decide ((k:Int)<P.length)=true:=by simpa using hlt
   have e0':decide (k<P.length)=true:=by simpa using hlt
   have l1:(k:Int)<P.length:=by omega
   obtain⟨b,off,_,rfl,hc⟩:=HX.o aO;have c1:=hc k hlt;clear hc;by_cases k0:k=0
   ·subst k0;rw[HT.o.1] at c1;simp only[Nat.add_zero] at c1;go_wp2_with fail;go_roundw
    case rel=>exact⟨1,by go_num,by omega,by trivial⟩
    case measure=>simp[intOf];omega
   ·have f0:((k:Int)==0)=false:=by simp;omega
    have f1:decide ((0:Int)<k)=true:=by simp;omega
    have f2:(k==0)=false:=by simpa using k0
    have f3:decide (0<k)=true:=by simp;omega
    have hp:=HT.o.2 k aO hlt;generalize P[k]?.getD 0=p at*;have g0:decide (p<0)=false:=by simp;omega
    have g1:decide ((k:Int)≤p)=false:=by simp;omega
    clear hp;go_wp2_with fail;go_roundw
    case rel=>exact⟨k+1,by go_num,by omega,by trivial⟩
    case measure=>simp[intOf];omega
  ·have e0:decide ((k:Int)<P.length)=false:=by simpa using hlt
   have e0':decide (k<P.length)=false:=by simpa using hlt
   go_wp2;go_ret;exact⟨rfl,rfl⟩
def fF (P:List Int) (k:Nat) (v:Nat):Bool:=decide ((v:Int)∈P.take k)
theorem qN {P:List Int} {k:Nat} (hk:k<P.length) (v:Nat):fF P (k+1) v=(fF P k v||decide (P[k]?.getD 0=(v:Int))):=by
 unfold fF;rw[List.take_succ_eq_append_getElem hk,List.getElem?_eq_getElem hk];simp only[Option.getD_some];rw[Bool.eq_iff_iff];simp only[decide_eq_true_eq,Bool.or_eq_true,List.mem_append,List.mem_singleton];exact or_congr Iff.rfl ⟨fun h=>h.symm,fun h=>h.symm⟩
theorem yt (hx:a7 w b1 v P) (hn:P.length≤100) (ht:gK P):Calls prog 82 #[v] w fun e w'=>∃g,e= .returned (.slice (some ⟨g,0,none⟩) P.length P.length)∧w.heap.size≤g∧am w' g (jT P.length (fun v=>decide ((v:Int)∈P))) 4∧ae [] w w':=by
 have HR:=aH (fun(W:World) (hf:ae [] w W)=>hx.frm hf aS);obtain⟨a,cap,rfl, -, -⟩:=hx;have HT:=aH ht;have mk:=Ex P.length aO;clear ht;go_enter func82,ntmps82
 go_upto_region 2 with fail
 generalize hW:World.alloc _ _=W;have hB:am W w.heap.size (jT P.length (fun _=>false)) 4:=by subst hW;exact am.new w _ _
 have hF:ae [] w W:=by subst hW;exact aF.alloc _
 have HB:=aH hB;have HF:=aH hF;clear hW hB hF mk;go_wp2_with fail;go_loopw[11] (fun iv wx=>∃k:Nat,iv= .int .i64 k∧k≤P.length∧am wx w.heap.size (jT P.length (fF P k)) 4∧ae [] w wx) (fun iv _=>P.length - (intOf iv).toNat)
 case atStart=>exact⟨0,rfl,by omega,HB.o,HF.o⟩
 case round=>
  obtain⟨k,rfl,hk,hB,hF⟩:=hrel;have HB1:=aH hB;have HF1:=aH hF;clear hB hF;by_cases hlt:k<P.length
  ·have e0:decide ((k:Int)<P.length)=true:=by simpa using hlt
   have e0':decide (k<P.length)=true:=by simpa using hlt
   have l1:(k:Int)<P.length:=by omega
   have hR:=HR.o _ HF1.o;obtain⟨a2,cap2,he, -,hcx⟩:=hR;obtain⟨b,off,_,rfl,hc⟩:=hcx aO;obtain⟨rfl,rfl⟩:a=some ⟨b,off,none⟩∧cap=cap2:=by simpa using he
   have c1:=hc k hlt;have hp:=fun h1:1≤k=>HT.o.2 k h1 hlt;have h0:=HT.o.1;have hs:=fun v=>qN hlt v;generalize hq:P[k]?.getD 0=p at*;have HQ:=aH hq;have HS:=aH hs;by_cases n1:0≤p
   ·obtain⟨j,rfl⟩:=Int.eq_ofNat_of_zero_le n1;have hk0:1≤k:=by
     by_cases e:k=0
     ·subst e;rw[h0] at hq;omega
     ·omega
    have hj:=hp hk0;have l2:(j:Int)<P.length:=by omega
    have g0:decide (0≤(j:Int))=true:=by simp
    have hb:am (wr.setCell (w.heap.size,j) (.bool true)) w.heap.size (jT P.length (fF P (k+1))) 4:=by
     have h3:=HB1.o.set j (.bool true)
     rwa [zZ (g:=fF P (k+1)) (by rw[HS.o];simp) (fun i _ hne=>by rw[HS.o];simp;intro e;exact absurd e.symm aO)] at h3
    have HB2:=aH hb;have HF2:=aH (HF1.o.set ⟨w.heap.size,j,none⟩ (.bool true) (.inr (Nat.le_refl _)));have hz:=HB1.o.frozen j;have ck:=HB1.o.cell (i:=j) (rf _ aO);clear hc hcx he hq hs hp h0 hj hb n1;go_wp2_with fail;go_roundw
    case rel=>exact⟨k+1,by go_num,by omega,HB2.o,HF2.o⟩
    case measure=>simp[intOf];omega
   ·have g0:decide (0≤p)=false:=by simpa using n1
    have e1:jT P.length (fF P (k+1))=jT P.length (fF P k):=by
     unfold jT;apply List.map_congr_left;intro i _;rw[HS.o];simp;intro e;omega
    have HB2:=aH HB1.o;rw[←e1] at HB2;clear hc hcx he hq hs hp h0 e1 n1;go_wp2_with fail;go_roundw
    case rel=>exact⟨k+1,by go_num,by omega,HB2.o,HF1.o⟩
    case measure=>simp[intOf];omega
  ·have e0:decide ((k:Int)<P.length)=false:=by simpa using hlt
   have e0':decide (k<P.length)=false:=by simpa using hlt
   have hke:k=P.length:=by omega
   have HB2:=aH HB1.o;rw[hke] at HB2;unfold fF at HB2;simp only[List.take_length] at HB2;clear hke;go_wp2;go_ret;exact⟨w.heap.size,rfl,Nat.le_refl _,HB2.o,HF1.o⟩
def cD (P:List Int) (k:Nat):List Int:=((List.range k).filter (fun v:Nat=> !decide ((v:Int)∈P))).map (fun v:Nat=>(v:Int))
theorem pt (hx:a7 w b1 v P) (hn:P.length≤100) (ht:gK P):Calls prog 67 #[v] w fun e w'=>∃u,e= .returned u∧ju w' w.heap.size u (cD P P.length)∧ae [] w w':=by
 obtain⟨i0,hi,hz0,hz1,hz2⟩:=info_parts iY;have HI:=aH (And.intro hi (And.intro hz0 (And.intro hz1 hz2)));have HN:=aH (yt hx hn ht);obtain⟨a,cap,rfl, -, -⟩:=hx;clear ht hi hz0 hz1 hz2;go_enter func67,ntmps67;go_wp2_with fail;refine HN.o.mono ?_;rintro e w1 ⟨g,rfl,hg,hB,hF⟩;have HB:=aH hB;have HF:=aH hF;have hgl:=hB.lt;have hsz:=hF.size;clear hB hF;go_wp2_with fail;go_loopw[3,9] (fun vv i wr=>∃(k:Nat) (v:Value),v=vv∧i= .int .i64 k∧k≤P.length∧ju wr w1.heap.size v (cD P k)∧ae [] w1 wr) (fun _ i _=>P.length - (intOf i).toNat)
 case atStart=>exact⟨0,_,rfl,rfl,Nat.zero_le _,ju.nil _ _,aF⟩
 case round=>
  obtain⟨k,v,rfl,rfl,hk,hO,hF⟩:=hrel;have hsz2:=hF.size;by_cases hlt:k<P.length
  ·have e0:decide ((k:Int)<P.length)=true:=by simpa using hlt
   have e0':decide (k<P.length)=true:=by simpa using hlt
   have l1:(k:Int)<P.length:=by omega
   have cb:=(HB.o.frm hF aS).cell (i:=k) (rf _ hlt);have HO:=aH hO;have HF2:=aH hF;have HBL:=aH (lA hO);have hns:cD P (k+1)=if decide ((k:Int)∈P) then cD P k else cD P k++[(k:Int)]:=by
    unfold cD;rw[List.range_succ,List.filter_append,List.map_append];by_cases h:(k:Int)∈P<;>simp[h]
   have HNS:=aH hns;clear hO hF hns;cases hd:decide ((k:Int)∈P) with
   |true=>
    rw[hd] at cb HNS;clear hd;go_wp2_with fail;go_roundw
    case rel=>exact⟨k+1,_,rfl,by go_num,by omega,by rw[HNS.o];exact HO.o,HF2.o⟩
    case measure=>simp[intOf];omega
   |false=>
    rw[hd] at cb HNS;clear hd;have hlen:(cD P k).length≤k:=by unfold cD;rw[List.length_map];exact Nat.le_trans (List.length_filter_le _ _) aS
    have HOW:=aH (HO.o.at (n:=(cD P k).length) rfl);generalize hll:(cD P k).length=ll at*;go_wp2_with(at_builtin;refine wpList_append_own _ rfl _ _ 22 rfl w1.heap.size 3 i0 (.int .i64 0) 1 8 underlying22 HI.o.1 HI.o.2.1 HI.o.2.2.1 HI.o.2.2.2 rfl aJ _ _ _ rfl (HOW.o.alloc _) ⟨wr.heap.size,0,none⟩ 1 1 [k] rfl rfl ?c1 ?c2 ?c3 ?c4 ?c5 ?_)
    case c1=>exact cell_one_new _ _ _
    case c2=>simp[Value.oneCell']
    case c3=>unfold maxLen;omega
    case c4=>omega
    case c5=>simp;omega
    intro v' w2 hown' hgrow _;obtain⟨g1,g2⟩:=oG hll hown' hgrow HBL.o HF2.o (Nat.le_refl _);have G1:=aH (show ju w2 w1.heap.size v' (cD P (k+1)) by rw[HNS.o];exact g1);have G2:=aH g2;clear g1 g2 hown' hgrow HOW HO HF2 cb hll;go_wp2;go_roundw
    case rel=>exact⟨k+1,_,rfl,by go_num,by omega,G1.o,G2.o⟩
    case measure=>simp[intOf];omega
  ·have e0:decide ((k:Int)<P.length)=false:=by simpa using hlt
   have e0':decide (k<P.length)=false:=by simpa using hlt
   have hke:k=P.length:=by omega
   have HK:=aH hke;have HO:=aH hO;have HF2:=aH hF;clear hke hO hF;go_wp2;go_ret;exact⟨_,rfl,by rw[←HK.o];exact HO.o.base hsz,HF.o.trans HF2.o⟩
end
theorem gG (P:List Int) (k:Nat) {x:Int} (h:x<0):bR P k x=0:=by
 cases k with
 |zero=>rfl
 |succ k=>unfold bR;rw[if_neg aO]
theorem kE {P:List Int} (ht:gK P):∀v:Nat,v<P.length→∀k,v+1≤k→bR P k v=bR P (v+1) v:=by
 intro v;induction v using Nat.strongRecOn with
 |_ v ih=>
  intro hv k hk;obtain⟨k,rfl⟩:∃k',k=k'+1:=⟨k - 1,by omega⟩
  have e:∀k,bR P (k+1) v=1+bR P k (P[v]?.getD 0):=fun k=>by
   rw[bR,if_pos aO];simp
  rw[e,e];by_cases h0:v=0
  ·subst h0;rw[ht.1,gG _ _ aO,gG _ _ aO]
  ·obtain⟨h1,h2⟩:=ht.2 v aO hv;obtain⟨p,hp⟩:=Int.eq_ofNat_of_zero_le h1;rw[hp] at h2⊢;rw[ih p aO aO k aO,ih p aO aO v aO]
theorem te {P:List Int} (ht:gK P) {v:Nat} (hv:v<P.length):bR P P.length v=1+bR P P.length (P[v]?.getD 0):=by
 obtain⟨n,hn⟩:∃n,P.length=n+1:=⟨P.length - 1,by omega⟩
 have e:bR P (n+1) v=1+bR P n (P[v]?.getD 0):=by
  rw[bR,if_pos aO];simp
 rw[hn,e];congr 1;by_cases h0:v=0
 ·subst h0;rw[ht.1,gG _ _ aO,gG _ _ aO]
 ·obtain⟨h1,h2⟩:=ht.2 v aO hv;obtain⟨p,hp⟩:=Int.eq_ofNat_of_zero_le h1;rw[hp] at h2⊢;rw[kE ht p aO n aO,kE ht p aO (n+1) aO]
def kT (P:List Int) (k v:Nat):Int:=if v<k then(bR P P.length v:Int) else 0
section
variable{w:World} {b1:Nat} {v:Value} {P:List Int}
theorem vD (hx:a7 w b1 v P) (hn:P.length≤100) (ht:gK P):Calls prog 68 #[v] w fun e w'=>∃g,e= .returned (.slice (some ⟨g,0,none⟩) P.length P.length)∧w.heap.size≤g∧am w' g (fA P.length (fun v=>(bR P P.length v:Int))) 3∧ae [] w w':=by
 have HR:=aH (fun(W:World) (hf:ae [] w W)=>hx.frm hf aS);obtain⟨a,cap,rfl, -, -⟩:=hx;have HT:=aH ht;have mk:=xF P.length aO;clear ht;go_enter func68,ntmps68
 go_upto_region 2 with fail
 generalize hW:World.alloc _ _=W;have hB:am W w.heap.size (fA P.length (fun _=>0)) 3:=by subst hW;exact am.new w _ _
 have hF:ae [] w W:=by subst hW;exact aF.alloc _
 have HB:=aH hB;have HF:=aH hF;clear hW hB hF mk;go_wp2_with fail;go_loopw[11] (fun iv wx=>∃k:Nat,iv= .int .i64 k∧k≤P.length∧am wx w.heap.size (fA P.length (kT P k)) 3∧ae [] w wx) (fun iv _=>P.length - (intOf iv).toNat)
 case atStart=>exact⟨0,rfl,by omega,HB.o,HF.o⟩
 case round=>
  obtain⟨k,rfl,hk,hB,hF⟩:=hrel;have HB1:=aH hB;have HF1:=aH hF;clear hB hF;by_cases hlt:k<P.length
  ·have e0:decide ((k:Int)<P.length)=true:=by simpa using hlt
   have e0':decide (k<P.length)=true:=by simpa using hlt
   have l1:(k:Int)<P.length:=by omega
   have hR:=HR.o _ HF1.o;obtain⟨a2,cap2,he, -,hcx⟩:=hR;obtain⟨b,off,hbb,rfl,hc⟩:=hcx aO;obtain⟨rfl,rfl⟩:a=some ⟨b,off,none⟩∧cap=cap2:=by simpa using he
   have c1:=hc k hlt;have hp:=fun h1:1≤k=>HT.o.2 k h1 hlt;have h0:=HT.o.1;have hs:=te HT.o hlt;have hz:=HB1.o.frozen;have ck:=HB1.o.cell (i:=k) (di _ hlt);have hb1:=HB1.o.set k (.int .i64 1);rw[oT (g:=fun v=>if v=k then 1 else kT P k v) aS (fun i _ hne=>by simp[hne])] at hb1;have HB2:=aH hb1;have HF2:=aH (HF1.o.set ⟨w.heap.size,k,none⟩ (.int .i64 1) (.inr (Nat.le_refl _)));generalize hq:P[k]?.getD 0=p at*;by_cases n1:0≤p
   ·obtain⟨j,rfl⟩:=Int.eq_ofNat_of_zero_le n1;have hk0:1≤k:=by
     by_cases e:k=0
     ·subst e;rw[h0] at hq;omega
     ·omega
    have hj:=hp hk0;have l2:(j:Int)<P.length:=by omega
    have g0:decide (0≤(j:Int))=true:=by simp
    have cj:=HB2.o.cell (i:=j) (di _ aO);have hz2:=HB2.o.frozen;have ck2:=HB2.o.cell (i:=k) (di _ hlt);have ej:(if j=k then(1:Int) else kT P k j)=(bR P P.length j:Int):=by
     rw[if_neg aO];unfold kT;rw[if_pos aO]
    rw[ej] at cj;have hd1:bR P P.length j≤100:=by have:=nz P P.length j;omega
    have hb2:=HB2.o.set k (.int .i64 ((bR P P.length j:Int)+1));rw[oT (g:=kT P (k+1)) (by unfold kT;rw[if_pos aO,hs];omega) (fun i _ hne=>by unfold kT;rw[if_neg hne];by_cases h:i<k;rw[if_pos aO,if_pos h];rw[if_neg aO,if_neg h])] at hb2;have HB3:=aH hb2;have HF3:=aH (HF2.o.set ⟨w.heap.size,k,none⟩ (.int .i64 ((bR P P.length j:Int)+1)) (.inr (Nat.le_refl _)));clear hc hcx he hq hs hp h0 hj n1 hb1 hb2 ej;generalize bR P P.length j=dj at*
    go_upto_region 6 with fail
    generalize(wr.setCell (w.heap.size,k) (.int .i64 1))=W1 at*;go_wp2_with fail;go_roundw
    case rel=>exact⟨k+1,by go_num,by omega,HB3.o,HF3.o⟩
    case measure=>simp[intOf];omega
   ·have g0:decide (0≤p)=false:=by simpa using n1
    have e1:fA P.length (fun v=>if v=k then(1:Int) else kT P k v)=fA P.length (kT P (k+1)):=by
     unfold fA;apply List.map_congr_left;intro i _;congr 1;show(if i=k then(1:Int) else kT P k i)=kT P (k+1) i;unfold kT;by_cases e:i=k
     ·subst e;rw[if_pos rfl,if_pos aO,hs,gG _ _ aO];rfl
     ·rw[if_neg e];by_cases h:i<k
      ·rw[if_pos h,if_pos aO]
      ·rw[if_neg h,if_neg aO]
    rw[e1] at HB2;clear hc hcx he hq hs hp h0 e1 n1 hb1;go_wp2_with fail;go_roundw
    case rel=>exact⟨k+1,by go_num,by omega,HB2.o,HF2.o⟩
    case measure=>simp[intOf];omega
  ·have e0:decide ((k:Int)<P.length)=false:=by simpa using hlt
   have e0':decide (k<P.length)=false:=by simpa using hlt
   have hke:k=P.length:=by omega
   have HB2:=aH HB1.o;have e1:fA P.length (kT P k)=fA P.length (fun v=>(bR P P.length v:Int)):=by
    unfold fA;apply List.map_congr_left;intro i hi;unfold kT;rw[if_pos (by have:=List.mem_range.1 hi;omega)]
   rw[e1] at HB2;clear hke e1;go_wp2;go_ret;exact⟨w.heap.size,rfl,Nat.le_refl _,HB2.o,HF1.o⟩
theorem x5 {E:List Int} {x:Int} (hx:a7 w b1 v E) (hn:E.length≤100) (hm:x∈E):Calls prog 84 #[v,x] w fun e w'=>(∃r:Nat,e= .returned r)∧w=w':=by
 obtain⟨a,cap,rfl, -,hcx⟩:=hx;have HX:=aH hcx;have HM:=aH hm;clear hcx hm;go_enter func84,ntmps84;go_wp2_with fail;go_loopw[8] (fun iv wx=>∃k:Nat,iv= .int .i64 k∧k≤E.length∧(∀i,i<k→E[i]?.getD 0≠x)∧w=wx) (fun iv _=>E.length - (intOf iv).toNat)
 case atStart=>exact⟨0,rfl,by omega,fun i hi=>by omega,rfl⟩
 case round=>
  obtain⟨k,rfl,hk,hj,rfl⟩:=hrel;have HJ:=aH hj;clear hj;by_cases hlt:k<E.length
  ·have e0:decide ((k:Int)<E.length)=true:=by simpa using hlt
   have e0':decide (k<E.length)=true:=by simpa using hlt
   have l1:(k:Int)<E.length:=by omega
   obtain⟨b,off,_,rfl,hc⟩:=HX.o aO;have c1:=hc k hlt;clear hc;generalize hy:E[k]?.getD 0=y at*;have HY:=aH hy;clear hy;by_cases hxy:x=y
   ·have d1:(x==y)=true:=by simpa using hxy
    clear hxy;go_wp2;go_ret;exact⟨⟨k,rfl⟩,rfl⟩
   ·have d1:(x==y)=false:=by simpa using hxy
    have HXY:=aH hxy;clear hxy;go_wp2_with fail;go_roundw
    case rel=>
     refine⟨k+1,by go_num,by omega,fun i hi=>?_,by trivial⟩;by_cases e:i=k
     ·subst e;rw[HY.o];exact fun e=>HXY.o e.symm
     ·exact HJ.o i aO
    case measure=>simp[intOf];omega
  ·exfalso;obtain⟨i,hi⟩:=List.getElem?_of_mem HM.o;have:=(List.getElem?_eq_some_iff.1 hi).1;exact HJ.o i aO (by rw[hi];rfl)
theorem rn {E:List Int} {x:Int} (hx:a7 w b1 v E) (hn:E.length≤100) (hm:x∈E):Calls prog 71 #[v,x] w fun e w'=>e= .returned true∧w=w':=by
 have HI:=aH (x5 hx hn hm);obtain⟨a,cap,rfl, -, -⟩:=hx;clear hm;go_enter func71,ntmps71;go_wp2_with fail;refine HI.o.mono ?_;rintro e w' ⟨⟨r,rfl⟩,rfl⟩;have d1:decide ((0:Int)≤r)=true:=by simp
 go_wp2;go_ret;exact⟨rfl,rfl⟩
theorem wX {E:List Int} {x:Int} {eb:Nat} (hx:a7 w b1 v E) (hn:E.length≤100) (hm:x∈E) (hc:w.cell? (eb,0)=some v):Calls prog 70 #[x,some eb] w fun e w'=>e= .returned false∧w=w':=by
 have HI:=aH (rn hx hn hm);obtain⟨a,cap,rfl, -, -⟩:=hx;clear hm;go_enter func70,ntmps70;go_wp2_with fail;refine HI.o.mono ?_;rintro e w' ⟨rfl,rfl⟩;go_wp2;go_ret;exact⟨rfl,rfl⟩
end
section
variable{P:Program} {md:Region.Mode} {ops:Array Oper} {Q:Exit→Act→World→Prop} {S:World→Prop}
theorem oV {i j:Nat} {o1 o2:Oper} {fuel:Nat} {listed:Array Bool} {a:Act} {w:World} (hi:pick ops.toList i=some o1) (hj:pick ops.toList j=some o2) (hr:Region.ready md ops listed=[i,j])
 (h1:wpList P ops (ff Q (fun a' w'=>S w'∧wpAnyH P md ops Q S fuel (listed.setIfInBounds i true) a' w')) [o1] a w)
 (h2:wpList P ops (ff Q (fun a' w'=>S w'∧wpAnyH P md ops Q S fuel (listed.setIfInBounds j true) a' w')) [o2] a w):wpAnyH P md ops Q S (fuel+1) listed a w:=by
 refine wpAnyH_all hr aS fun k hk=>?_;obtain⟨o,hi,h⟩:∃o,pick ops.toList k=some o∧wpList P ops (ff Q (fun a' w'=>S w'∧wpAnyH P md ops Q S fuel (listed.setIfInBounds k true) a' w')) [o] a w:=by
  rcases List.mem_cons.1 hk with e|hk
  ·subst e;exact⟨_,hi,h1⟩
  ·have e:k=j:=by simpa using hk
   subst e;exact⟨_,hj,h2⟩
 have hi:=oE hi;unfold wpOp;simp only[hi];simp only[wpList] at h;have key:∀a' w',ff Q (fun a' w'=>S w'∧wpAnyH P md ops Q S fuel (listed.setIfInBounds k true) a' w') .normal a' w'→S w'∧wpAnyH P md ops Q S fuel (listed.setIfInBounds k true) a' w':=fun _ _ h=>h.1 rfl
 split
 ·rename_i hw
  rw[if_pos hw] at h;rcases h with h|⟨h1,a1,w1,h2⟩
  ·left;unfold Oper.wp at*;generalize(execOp a.eval o).run P w=r at*;cases r with
   |ok n w'=>
    cases n<;>simp only[Oper.upon] at h⊢
    case value u=>exact key _ _ h
    case skip=>exact key _ _ h
    case defer d=>exact key _ _ h
    case enter f args=>
     refine Calls.mono h fun e w'' he=>?_;cases e with
     |returned u=>exact key _ _ he
     |panicked c=>exact he.2 aS
     |outgrown=>obtain⟨a1,w1,h2⟩:=he;exact⟨a1,w1,h2.2 aS⟩
    case row row args=>exact Rows.mono h fun u w'' he=>key _ _ he
   |halt x w'=>
    cases x<;>simp only[Oper.upon] at h⊢
    case panic u=>exact h.2 aS
  ·exact .inr ⟨h1,a1,w1,h2.2 aS⟩
 ·rename_i hw
  rw[if_neg hw] at h;exact key _ _ h
end
section
variable{w:World} {b1:Nat} {v:Value}
theorem qP {E T:List Int} {u:Value} {eb b2:Nat} (hx:a7 w b1 v T) (hy:a7 w b2 u E) (hn:E.length≤100) (hT:T.length≤100) (hm:∀t∈T,t∈E) (hc:w.cell? (eb,0)=some u):Calls prog 83 #[v,.func (.func 70) #[] #[some eb]] w fun e w'=>e= .returned (-1:Int)∧w=w':=by
 have HC:=aH (fun(x:Int) (h:x∈T)=>wX hy hn (hm x h) hc);obtain⟨a,cap,rfl, -,hcx⟩:=hx;have HX:=aH hcx;clear hcx hy hm hc;go_enter func83,ntmps83;go_wp2_with fail;go_loopw[8] (fun iv wx=>∃k:Nat,iv= .int .i64 k∧k≤T.length∧w=wx) (fun iv _=>T.length - (intOf iv).toNat)
 case atStart=>exact⟨0,rfl,by omega,rfl⟩
 case round=>
  obtain⟨k,rfl,hk,rfl⟩:=hrel;by_cases hlt:k<T.length
  ·have e0:decide ((k:Int)<T.length)=true:=by simpa using hlt
   have e0':decide (k<T.length)=true:=by simpa using hlt
   have l1:(k:Int)<T.length:=by omega
   obtain⟨b,off,_,rfl,hc⟩:=HX.o aO;have c1:=hc k hlt;have hmem:T[k]?.getD 0∈T:=by rw[List.getElem?_eq_getElem hlt];exact List.getElem_mem _
   have HCC:=aH (HC.o _ hmem);clear hc hmem;generalize T[k]?.getD 0=x at*;go_wp2_with(go_at_call 70;refine HCC.o.mono ?_;rintro e w' ⟨rfl,rfl⟩)
   go_roundw
   case rel=>exact⟨k+1,by go_num,by omega,by trivial⟩
   case measure=>simp[intOf];omega
  ·have e0:decide ((k:Int)<T.length)=false:=by simpa using hlt
   have e0':decide (k<T.length)=false:=by simpa using hlt
   go_wp2;go_ret;exact⟨rfl,rfl⟩
theorem mN {E T:List Int} {u:Value} {eb b2:Nat} (hx:a7 w b1 v T) (hy:a7 w b2 u E) (hn:E.length≤100) (hT:T.length≤100) (hm:∀t∈T,t∈E) (hc:w.cell? (eb,0)=some u):Calls prog 69 #[v,.func (.func 70) #[] #[some eb]] w fun e w'=>e= .returned false∧w=w':=by
 have HI:=aH (qP hx hy hn hT hm hc);obtain⟨a,cap,rfl, -, -⟩:=hx;clear hy hm hc;go_enter func69,ntmps69;go_wp2_with fail;refine HI.o.mono ?_;rintro e w' ⟨rfl,rfl⟩;go_wp2;go_ret;exact⟨rfl,rfl⟩
end
theorem wj {P:List Int} {x:Int} (h:x∈cD P P.length):∃v:Nat,x=v∧v<P.length∧df P v=true:=by
 unfold cD at h;simp at h;obtain⟨v,⟨h1,h2⟩,rfl⟩:=h;exact⟨v,rfl,h1,by unfold df;simp[h1,h2]⟩
theorem r4 {P:List Int} {x:Int} (h:df P x=true):x∈cD P P.length:=by
 unfold df at h;simp at h;obtain⟨v,rfl⟩:=Int.eq_ofNat_of_zero_le h.1.1;unfold cD;simp;exact⟨v,⟨by omega,h.2⟩,rfl⟩
end Go.Proofs.YteijjhahgabalaaGreat
