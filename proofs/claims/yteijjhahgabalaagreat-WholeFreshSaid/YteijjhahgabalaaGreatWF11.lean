/- A slice of ints of one's own: a row known whole; what an append leaves of it. Plain lemmas. -/
import Derived.Test.YteijjhahgabalaaGreatProg
import Derived.WalkKit
import Derived.OwnWalk
import Derived.Test.YteijjhahgabalaaGreatWF05
import Derived.Test.YteijjhahgabalaaGreatWF01
set_option maxRecDepth 100000
set_option maxHeartbeats 8000000
set_option linter.all false
namespace Go.Proofs.YteijjhahgabalaaGreat
open Go.RowKit
open Tryz
def oA(w:World)(base:Nat)(v:Value)(zs:List Int):Prop:=w.ownsRow base 3 1 v zs.length (zs.map (Value.int .i64))
variable{w:World}{v:Value}{zs:List Int}{n:Nat}
theorem oA.at{base:Nat}(h:oA w base v zs)(hn:zs.length=n):w.ownsRow base 3 1 v n (zs.map (Value.int .i64)):=by subst hn;exact h
theorem oA.nil(w:World)(base:Nat):oA w base (.slice none 0 0) []:=⟨by simp,.inl ⟨rfl,rfl⟩⟩
variable{w':World}{S:List Nat}
theorem oA.Rr{base:Nat}(h:oA w base v zs)(b:af S w w')(hs:∀k∈S,k<base):oA w' base v zs:=by
 obtain⟨h1,h2⟩:=h;refine⟨h1,?_⟩;rcases h2 with h2|⟨g,cap,cur,hv,c,a,r⟩
 ·exact .inl h2
 ·refine .inr ⟨g,cap,cur,hv,c,?_,r⟩;rw[b.block g (I4.1 a).1 (λhm=>by have:=hs g hm;omega)];exact a
theorem oA.base{base a:Nat}(h:oA w base v zs)(b:a<=base):oA w a v zs:=by
 obtain⟨h1,h2⟩:=h;refine⟨h1,?_⟩;rcases h2 with h2|⟨g,cap,cur,hv,c,r⟩
 ·exact .inl h2
 ·exact .inr ⟨g,cap,cur,hv,by omega,r⟩
def aZ(w:World)(base:Nat)(v:Value)(zs:List Int):Prop:=
 ∃a cap,v= .slice a zs.length cap/\zs.length<=maxLen/\(0<zs.length->∃b off,base<=b/\a=some ⟨b,off,none⟩/\∀i,i<zs.length->w.cell? ⟨b,off+i,none⟩=some (.int .i64 (zs[i]?.getD 0)))
theorem oA.row{base:Nat}(h:oA w base v zs):aZ w base v zs:=by
 obtain⟨h1,h2⟩:=h;rcases h2 with⟨rfl,h2⟩|⟨g,cap,cur,hv,b,c,hn,d,a,ht⟩
 ·have:zs=[]:=BL.1 h2;subst this;exact⟨none,0,rfl,fA _,λh=>am h (Am _)⟩
 ·refine⟨some ⟨g,0,none⟩,cap,hv,by omega,λ_=>⟨g,0,b,rfl,λi hi=>?_⟩⟩;unfold World.cell?;simp only[jM];rw[c];show cur[i]? =_;have h3:(cur.toList.take (zs.length*1))[i]? =(zs.map (Value.int .i64))[i]? :=by rw[ht]
  rw[y5 aO,iL] at h3;rw[<-FF,h3];simp[hi]
theorem aZ.Rr{base:Nat}(h:aZ w base v zs)(f:af S w w')(hs:∀k∈S,k<base):aZ w' base v zs:=by
 obtain⟨a,cap,h1,h2,h3⟩:=h;refine⟨a,cap,h1,h2,λc=>?_⟩;obtain⟨b,off,d,ha,e⟩:=h3 c;exact⟨b,off,d,ha,λi hi=>f.cell (e i hi) (λhm=>by have:=hs b hm;omega)⟩
theorem wK{w0 w1:World}{base:Nat}{v':Value}{x:Int}{o:Obj}{row:Option Nat}(hn:zs.length=n)(a:w1.ownsRow base 3 1 v' (n+1) (zs.map (Value.int .i64)++[.int .i64 x]))(d:(w.alloc o).grownBy w1 row)(e:∀k,row=some k->base<=k)(c:af S w0 w)(f:w0.heap.size<=base):oA w1 base v' (zs++[x])/\af S w0 w1:=by
 subst hn;refine⟨by unfold oA;simpa using a,?_⟩;exact(c.alloc o).Rx (S':=row.toList) (af.SM d (λk b=>.inl (by simp[b]))) (λk b=>.inr (by have:=e k (by simpa using b);omega))
theorem tR{base:Nat}(h:oA w base v zs):∀k,v.ownBlock=some k->base<=k:=by
 obtain⟨h1,h2⟩:=h;rcases h2 with⟨rfl,h2⟩|⟨g,cap,cur,rfl,b,r⟩
 ·intro k a;simp[Value.ownBlock] at a
 ·intro k a;simp[Value.ownBlock] at a;omega
theorem nY:(prog.info? 3).map (λi=>(i.zero,i.size,i.bytes))=some (some (.int .i64 0),1,8):=by kernel_rfl
theorem aq.rowAt{b base:Nat}(h:aq w b (zs.map (Value.int .i64)) 3)(a:base<=b)(hl:zs.length<=maxLen):aZ w base (.slice (some ⟨b,0,none⟩) zs.length zs.length) zs:=by
 refine⟨_,_,rfl,hl,λ_=>⟨b,0,a,rfl,λi hi=>?_⟩⟩;rw[jM];refine h.cell ?_;rw[iL,eB hi];simp
def pX(x0 x1 x2 x3:Int):Value:=.agg #[(1+x3%13:Int),(1+x0%5:Int),(1+x1%5:Int),(1+x2/4%4:Int),(x2%4:Int)]
theorem wS(w:World)(a x1 x2 x3:Int)(b:0<=a/\a<256)(h1:0<=x1/\x1<256)(h2:0<=x2/\x2<256)(h3:0<=x3/\x3<256):
 Calls prog 12 #[.agg #[.int .u8 a,.int .u8 x1,.int .u8 x2,.int .u8 x3]] w λe w'=>e= .returned (pX a x1 x2 x3)/\af [] w w':=by
 unfold pX;go_enter func12,ntmps12;go_wp2;exact eO (v:=.agg #[(1+x3%13:Int),(1+a%5:Int),(1+x1%5:Int),(1+x2/4%4:Int),(x2%4:Int)]) (by simp[results,results12,go_sem]) rfl ⟨rfl,(aF.alloc _).alloc _⟩
theorem L2(w:World):Calls prog 23 #[] w λe w'=>∃v u,e= .returned (.agg #[v,u])/\aZ w' 0 v [-1,0,0]/\aZ w' 0 u [1,1,2,2]/\af [] w w':=by
 go_enter func23,ntmps23;go_wp2;have g1:=(aq.new (w.alloc (.cells #[.slice (some ⟨w.heap.size+1,0,none⟩) 3 3,.slice (some ⟨w.heap.size+1+1,0,none⟩) 4 4] 24)) #[(-1:Int),(0:Int),(0:Int)] 3).alloc (.cells #[(1:Int),(1:Int),(2:Int),(2:Int)] 3);have g2:=aq.new ((w.alloc (.cells #[.slice (some ⟨w.heap.size+1,0,none⟩) 3 3,.slice (some ⟨w.heap.size+1+1,0,none⟩) 4 4] 24)).alloc (.cells #[(-1:Int),(0:Int),(0:Int)] 3)) #[(1:Int),(1:Int),(2:Int),(2:Int)] 3;rw[bP] at g1;rw[bP,bP] at g2;have a:aZ _ 0 (.slice (some ⟨w.heap.size+1,0,none⟩) 3 3) [-1,0,0]:=aq.rowAt (zs:=[-1,0,0]) (base:=0) g1 (fA _) (by unfold maxLen;simp);have b:aZ _ 0 (.slice (some ⟨w.heap.size+1+1,0,none⟩) 4 4) [1,1,2,2]:=aq.rowAt (zs:=[1,1,2,2]) (base:=0) g2 (fA _) (by unfold maxLen;simp);exact eO (v:=.agg #[.slice (some ⟨w.heap.size+1,0,none⟩) 3 3,.slice (some ⟨w.heap.size+1+1,0,none⟩) 4 4]) (by simp[results,results23,go_sem]) rfl ⟨_,_,rfl,a,b,((aF.alloc _).alloc _).alloc _⟩
end Go.Proofs.YteijjhahgabalaaGreat
