/- A slice of ints of one's own: a row known whole; what an append leaves of it. Plain lemmas. -/
import Derived.Test.YteijjhahgabalaaGreatProg
import Derived.WalkKit
import Derived.OwnWalk
import Derived.Test.YteijjhahgabalaaGreatWA01
import Derived.Test.YteijjhahgabalaaGreatWA02
set_option maxRecDepth 100000
set_option maxHeartbeats 8000000
set_option linter.all false
namespace Go.Proofs.YteijjhahgabalaaGreat
open Go.RowKit
open Tryz
def ju (w:World) (base:Nat) (v:Value) (zs:List Int):Prop:=w.ownsRow base 3 1 v zs.length (zs.map (Value.int .i64))
theorem ju.at {w:World} {base:Nat} {v:Value} {zs:List Int} (h:ju w base v zs) {n:Nat} (hn:zs.length=n):w.ownsRow base 3 1 v n (zs.map (Value.int .i64)):=by subst hn;exact h
theorem ju.nil (w:World) (base:Nat):ju w base (.slice none 0 0) []:=⟨by simp,.inl ⟨rfl,rfl⟩⟩
theorem ju.frm {w w':World} {base:Nat} {v:Value} {zs:List Int} (h:ju w base v zs) {S:List Nat} (hf:ae S w w') (hs:∀k∈S,k<base):ju w' base v zs:=by
 obtain⟨h1,h2⟩:=h;refine⟨h1,?_⟩;rcases h2 with h2|⟨g,cap,cur,hv,hg,hh,r⟩
 ·exact .inl h2
 ·refine .inr ⟨g,cap,cur,hv,hg,?_,r⟩;rw[hf.block g (Array.getElem?_eq_some_iff.1 hh).1 (fun hm=>by have:=hs g hm;omega)];exact hh
theorem ju.base {w:World} {base base':Nat} {v:Value} {zs:List Int} (h:ju w base v zs) (hb:base'≤base):ju w base' v zs:=by
 obtain⟨h1,h2⟩:=h;refine⟨h1,?_⟩;rcases h2 with h2|⟨g,cap,cur,hv,hg,r⟩
 ·exact .inl h2
 ·exact .inr ⟨g,cap,cur,hv,by omega,r⟩
def a7 (w:World) (base:Nat) (v:Value) (zs:List Int):Prop:=
 ∃a cap,v= .slice a zs.length cap∧zs.length≤maxLen∧(0<zs.length→∃b off,base≤b∧a=some ⟨b,off,none⟩∧∀i,i<zs.length→w.cell? ⟨b,off+i,none⟩=some (.int .i64 (zs[i]?.getD 0)))
theorem ju.row {w:World} {base:Nat} {v:Value} {zs:List Int} (h:ju w base v zs):a7 w base v zs:=by
 obtain⟨h1,h2⟩:=h;rcases h2 with⟨rfl,h2⟩|⟨g,cap,cur,hv,hg,hh,hn,hc,hcur,ht⟩
 ·have:zs=[]:=List.length_eq_zero_iff.1 h2;subst this;exact⟨none,0,rfl,Nat.zero_le _,fun h=>absurd h (Nat.lt_irrefl _)⟩
 ·refine⟨some ⟨g,0,none⟩,cap,hv,by omega,fun _=>⟨g,0,hg,rfl,fun i hi=>?_⟩⟩;unfold World.cell?;simp only[Nat.zero_add];rw[hh];show cur[i]? =_;have h3:(cur.toList.take (zs.length*1))[i]? =(zs.map (Value.int .i64))[i]? :=by rw[ht]
  rw[List.getElem?_take_of_lt aO,List.getElem?_map] at h3;rw[←Array.getElem?_toList,h3];simp[hi]
theorem a7.frm {w w':World} {base:Nat} {v:Value} {zs:List Int} (h:a7 w base v zs) {S:List Nat} (hf:ae S w w') (hs:∀k∈S,k<base):a7 w' base v zs:=by
 obtain⟨a,cap,h1,h2,h3⟩:=h;refine⟨a,cap,h1,h2,fun h0=>?_⟩;obtain⟨b,off,hb,ha,hc⟩:=h3 h0;exact⟨b,off,hb,ha,fun i hi=>hf.cell (hc i hi) (fun hm=>by have:=hs b hm;omega)⟩
theorem oG {w0 w w1:World} {base:Nat} {v':Value} {zs:List Int} {x:Int} {S:List Nat} {o:Obj} {row:Option Nat} {n:Nat} (hn:zs.length=n) (hown:w1.ownsRow base 3 1 v' (n+1) (zs.map (Value.int .i64)++[.int .i64 x]))
 (hg:(w.alloc o).grownBy w1 row) (hr:∀k,row=some k→base≤k) (hf:ae S w0 w) (hb:w0.heap.size≤base):ju w1 base v' (zs++[x])∧ae S w0 w1:=by
 subst hn;refine⟨by unfold ju;simpa using hown,?_⟩;exact(hf.alloc o).widen (S':=row.toList) (ae.of_grown hg (fun k hk=>.inl (by simp[hk]))) (fun k hk=>.inr (by have:=hr k (by simpa using hk);omega))
theorem lA {w:World} {base:Nat} {v:Value} {zs:List Int} (h:ju w base v zs):∀k,v.ownBlock=some k→base≤k:=by
 obtain⟨h1,h2⟩:=h;rcases h2 with⟨rfl,h2⟩|⟨g,cap,cur,rfl,hg,r⟩
 ·intro k hk;simp[Value.ownBlock] at hk
 ·intro k hk;simp[Value.ownBlock] at hk;omega
theorem iY:(prog.info? 3).map (fun i=>(i.zero,i.size,i.bytes))=some (some (.int .i64 0),1,8):=by kernel_rfl
theorem am.rowAt {w:World} {b base:Nat} {zs:List Int} (h:am w b (zs.map (Value.int .i64)) 3) (hb:base≤b) (hl:zs.length≤maxLen):a7 w base (.slice (some ⟨b,0,none⟩) zs.length zs.length) zs:=by
 refine⟨_,_,rfl,hl,fun _=>⟨b,0,hb,rfl,fun i hi=>?_⟩⟩;rw[Nat.zero_add];refine h.cell ?_;rw[List.getElem?_map,List.getElem?_eq_getElem hi];simp
def kM (x0 x1 x2 x3:Int):Value:=.agg #[(1+x3%13:Int),(1+x0%5:Int),(1+x1%5:Int),(1+x2/4%4:Int),(x2%4:Int)]
theorem zg (w:World) (x0 x1 x2 x3:Int) (h0:0≤x0∧x0<256) (h1:0≤x1∧x1<256) (h2:0≤x2∧x2<256) (h3:0≤x3∧x3<256):
 Calls prog 12 #[.agg #[.int .u8 x0,.int .u8 x1,.int .u8 x2,.int .u8 x3]] w fun e w'=>e= .returned (kM x0 x1 x2 x3)∧ae [] w w':=by
 unfold kM;go_enter func12,ntmps12;go_wp2;exact bodyPost_ret (v:=.agg #[(1+x3%13:Int),(1+x0%5:Int),(1+x1%5:Int),(1+x2/4%4:Int),(x2%4:Int)]) (by simp[results,results12,go_sem]) rfl ⟨rfl,(aF.alloc _).alloc _⟩
theorem D2 (w:World):Calls prog 23 #[] w fun e w'=>∃v u,e= .returned (.agg #[v,u])∧a7 w' 0 v [-1,0,0]∧a7 w' 0 u [1,1,2,2]∧ae [] w w':=by
 go_enter func23,ntmps23;go_wp2;have g1:=(am.new (w.alloc (.cells #[.slice (some ⟨w.heap.size+1,0,none⟩) 3 3,.slice (some ⟨w.heap.size+1+1,0,none⟩) 4 4] 24)) #[(-1:Int),(0:Int),(0:Int)] 3).alloc (.cells #[(1:Int),(1:Int),(2:Int),(2:Int)] 3);have g2:=am.new ((w.alloc (.cells #[.slice (some ⟨w.heap.size+1,0,none⟩) 3 3,.slice (some ⟨w.heap.size+1+1,0,none⟩) 4 4] 24)).alloc (.cells #[(-1:Int),(0:Int),(0:Int)] 3)) #[(1:Int),(1:Int),(2:Int),(2:Int)] 3;rw[World.size_alloc] at g1;rw[World.size_alloc,World.size_alloc] at g2;have r1:a7 _ 0 (.slice (some ⟨w.heap.size+1,0,none⟩) 3 3) [-1,0,0]:=am.rowAt (zs:=[-1,0,0]) (base:=0) g1 (Nat.zero_le _) (by unfold maxLen;simp);have r2:a7 _ 0 (.slice (some ⟨w.heap.size+1+1,0,none⟩) 4 4) [1,1,2,2]:=am.rowAt (zs:=[1,1,2,2]) (base:=0) g2 (Nat.zero_le _) (by unfold maxLen;simp);exact bodyPost_ret (v:=.agg #[.slice (some ⟨w.heap.size+1,0,none⟩) 3 3,.slice (some ⟨w.heap.size+1+1,0,none⟩) 4 4]) (by simp[results,results23,go_sem]) rfl ⟨_,_,rfl,r1,r2,((aF.alloc _).alloc _).alloc _⟩
end Go.Proofs.YteijjhahgabalaaGreat
