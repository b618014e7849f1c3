/- The contracts of package arena: words that are changed one at a time. -/
import Derived.Test.YteijjhahgabalaaGreatProg
import Derived.WalkKit
import Derived.WalkSpells
import Derived.Deep.QuietTactic
import Derived.BigQuiet
import Derived.IntWalk
import Derived.Lib.Hide
import Derived.Laws.LoneSync
import Derived.Test.YteijjhahgabalaaGreatWA01
import Derived.Test.YteijjhahgabalaaGreatWA02
set_option maxRecDepth 100000
set_option maxHeartbeats 8000000
set_option linter.all false
namespace Go.Proofs.YteijjhahgabalaaGreat
open Go.RowKit
open Tryz
structure AR where
 ws:List Int
 taken:Nat
 ops:Int
 k:Int
 at_:Int
 wr:Bool
structure aj (w:World) (ab wb:Nat) (A:AR):Prop where
 box:am w ab [.slice (some ⟨wb,0,none⟩) A.ws.length A.ws.length,A.taken,A.ops,A.k,A.at_,A.wr] 93
 row:am w wb (A.ws.map (Value.int .i64)) 158
 ne:wb≠ab
 room:A.ws.length≤4096
 le:A.taken≤A.ws.length
theorem aj.frm {w w':World} {ab wb:Nat} {A:AR} (h:aj w ab wb A) {S:List Nat} (hf:ae S w w') (h1:ab∉S) (h2:wb∉S):aj w' ab wb A:=
 {h with box:=h.box.frm hf h1,row:=h.row.frm hf h2}
def AR.note (A:AR) (k at_:Int) (wr:Bool):AR:={A with ops:=wrap64 (A.ops+1),k:=k,at_:=at_,wr:=wr}
def AR.has (A:AR) (i:Int):Bool:=decide (1≤i∧i≤(A.taken:Int))
def AR.get (A:AR) (i:Int):Int:=if A.has i then A.ws[(i.toNat - 1)]?.getD 0 else 0
def AR.put (A:AR) (i v:Int):AR:={A with ws:=A.ws.set (i.toNat - 1) v}
def AR.load (A:AR) (i:Int):AR:=if A.has i then A.note 1 i false else A
def AR.store (A:AR) (i v:Int):AR:=if A.has i then(A.note 2 i true).put i v else A
def AR.swap (A:AR) (i v:Int):AR:=if A.has i then(A.note 3 i true).put i v else A
def AR.casOk (A:AR) (i o:Int):Bool:=A.has i&&decide (A.get i=o)
def AR.cas (A:AR) (i o v:Int):AR:=if A.has i then(if A.get i=o then(A.note 4 i true).put i v else A.note 4 i false) else A
def AR.add (A:AR) (i d:Int):AR:=if A.has i then(A.note 5 i true).put i (wrap64 (A.get i+d)) else A
def AR.addRes (A:AR) (i d:Int):Int:=if A.has i then wrap64 (A.get i+d) else 0
theorem tA {w:World} {ab wb:Nat} {A:AR} (h:aj w ab wb A):Calls prog 32 #[some ab] w fun e w'=>e= .returned A.taken∧w=w':=by
 have c1:=h.box.cell (i:=1) rfl;clear h;go_enter func32,ntmps32;go_wp2;go_ret;exact⟨rfl,rfl⟩
theorem Bo {w:World} {ab wb:Nat} {A:AR} (h:aj w ab wb A):Calls prog 33 #[some ab] w fun e w'=>e= .returned A.ops∧w=w':=by
 have c1:=h.box.cell (i:=2) rfl;clear h;go_enter func33,ntmps33;go_wp2;go_ret;exact⟨rfl,rfl⟩
theorem g8 {w:World} {ab wb:Nat} {A:AR} (h:aj w ab wb A) (i:Int) (hi:A.has i=true):
 Calls prog 78 #[some ab,i] w fun e w'=>e= .returned (.pointer (some ⟨wb,i.toNat - 1,none⟩))∧w=w':=by
 have h1:1≤i∧i≤(A.taken:Int):=by unfold AR.has at hi;simpa using hi
 have h2:=h.le;have h3:=h.room;have c0:=h.box.cell (i:=0) rfl;obtain⟨n,hn⟩:∃n:Nat,i=(n:Int)+1:=⟨i.toNat - 1,by omega⟩
 have HL:=aH (tA h);subst hn;have e1:((n:Int)+1).toNat - 1=n:=by omega
 rw[e1];clear h hi e1;have d1:decide ((n:Int)+1<1)=false:=by simp;omega
 have d2:decide ((A.taken:Int)<(n:Int)+1)=false:=by simp;omega
 have l1:(n:Int)<A.ws.length:=by omega
 go_enter func78,ntmps78;go_wp2_with fail;refine HL.o.mono ?_;rintro e w' ⟨rfl,rfl⟩;go_wp2;go_ret;exact⟨rfl,rfl⟩
theorem kn {w:World} {ab wb:Nat} {A:AR} (h:aj w ab wb A) (i:Int) (hi:A.has i=false):
 Calls prog 78 #[some ab,i] w fun e w'=>e= .returned (.pointer none)∧w=w':=by
 have h1:¬(1≤i∧i≤(A.taken:Int)):=by unfold AR.has at hi;simpa using hi
 have HL:=aH (tA h);clear h hi;by_cases hlt:i<1
 ·go_enter func78,ntmps78;go_wp2;go_ret;exact⟨rfl,rfl⟩
 ·have d1:decide (i<1)=false:=by simp;omega
  have d2:decide ((A.taken:Int)<i)=true:=by simp;omega
  clear h1;go_enter func78,ntmps78;go_wp2_with fail;refine HL.o.mono ?_;rintro e w' ⟨rfl,rfl⟩;go_wp2;go_ret;exact⟨rfl,rfl⟩
theorem gJ {w:World} {ab wb:Nat} {A:AR} (h:aj w ab wb A) (k i:Int) (wr:Bool):
 Calls prog 79 #[some ab,k,i,wr] w fun e w'=>e= .returned (.tuple #[])∧aj w' ab wb (A.note k i wr)∧ae [ab] w w':=by
 have c2:=h.box.cell (i:=2) rfl;have c3:=h.box.cell (i:=3) rfl;have c4:=h.box.cell (i:=4) rfl;have c5:=h.box.cell (i:=5) rfl;have z2:=h.box.frozen 2;have z3:=h.box.frozen 3;have z4:=h.box.frozen 4;have z5:=h.box.frozen 5;have H:=aH h;clear h;go_enter func79,ntmps79;go_wp2;go_end0;refine⟨rfl,?_,?_⟩
 ·exact{box:=(((H.o.box.set 2 _).set 3 _).set 4 _).set 5 _,row:=((((H.o.row.other _ _ H.o.ne).other _ _ H.o.ne).other _ _ H.o.ne).other _ _ H.o.ne),ne:=H.o.ne,room:=H.o.room,le:=H.o.le}
 ·exact((aU.set _ _ (.inl aS)).set _ _ (.inl aS)).set _ _ (.inl aS)
theorem aj.put {w:World} {ab wb:Nat} {A:AR} (h:aj w ab wb A) (i v:Int):aj (w.setCell (wb,i.toNat - 1) (.int .i64 v)) ab wb (A.put i v):=by
 have h2:=h.box.other ⟨wb,i.toNat - 1,none⟩ (.int .i64 v) (Ne.symm h.ne);refine{box:=?_,row:=?_,ne:=h.ne,room:=?_,le:=?_}
 ·unfold AR.put;rw[List.length_set];exact h2
 ·unfold AR.put;rw[List.map_set];exact h.row.set _ _
 ·unfold AR.put;rw[List.length_set];exact h.room
 ·unfold AR.put;rw[List.length_set];exact h.le
theorem ji {w:World} {ab wb:Nat} {A:AR} (h:aj w ab wb A) (i:Int) (hi:A.has i=true):w.cell? (wb,i.toNat - 1)=some (.int .i64 (A.get i)):=by
 have h1:1≤i∧i≤(A.taken:Int):=by unfold AR.has at hi;simpa using hi
 have h2:=h.le;refine h.row.cell ?_;have hl:(i.toNat - 1)<A.ws.length:=by omega
 unfold AR.get;rw[hi,List.getElem?_map,List.getElem?_eq_getElem hl];rfl
def gw (n:Nat):Array Value:=(List.replicate n (Value.int .i64 0)).toArray
theorem o7 (n:Nat):(gw n).toList=(List.replicate n (0:Int)).map (Value.int .i64):=by simp[gw]
theorem xG:(prog.info? 158).map (fun i=>(i.zero,i.size,i.bytes))=some (some (.agg #[(0:Int)]),1,8):=by kernel_rfl
theorem CN (n:Nat) (hn:n≤1000000) (W:World):(Instr.makeSlice 91 (.int .i64 n) (.int .i64 n)).run prog W= .ok (.slice (some ⟨W.heap.size,0,none⟩) n n) (W.alloc (.cells (gw n) 158)):=by
 obtain⟨i0,hi,hz0,hz1,hz2⟩:=info_parts xG;rw[run_make W 91 158 i0 (.agg #[(0:Int)]) underlying91 hi hz0 .i64 .i64 n n aO aO (by rw[hz2];omega) aO];have e:madeCells (Value.agg #[(0:Int)]).cells (((n:Int).toNat)*i0.size)=gw n:=by
  apply Array.ext';rw[hz1];show(madeCells #[Value.int .i64 0] _).toList=_;rw[toList_madeCells_one];simp[gw]
 rw[e];simp
def AR.fresh (n:Nat):AR:={ws:=List.replicate n 0,taken:=0,ops:=0,k:=0,at_:=0,wr:=false}
theorem yg (w:World) (n:Nat) (hn:n≤4096):aj ((w.alloc (.cells (gw n) 158)).alloc (.cells #[.slice (some ⟨w.heap.size,0,none⟩) n n,(0:Int),(0:Int),(0:Int),(0:Int),false] 93)) (w.heap.size+1) w.heap.size (AR.fresh n):=by
 have h1:=(am.new w (gw n) 158).alloc (.cells #[.slice (some ⟨w.heap.size,0,none⟩) n n,(0:Int),(0:Int),(0:Int),(0:Int),false] 93);have h2:=am.new (w.alloc (.cells (gw n) 158)) #[.slice (some ⟨w.heap.size,0,none⟩) n n,(0:Int),(0:Int),(0:Int),(0:Int),false] 93;rw[o7] at h1;rw[World.size_alloc] at h2;refine{box:=?_,row:=h1,ne:=by omega,room:=by simpa[AR.fresh] using hn,le:=by simp[AR.fresh]};simpa[AR.fresh] using h2
theorem zt (room:Int) (n:Nat) (hn:n≤4096) (w:World) (h:(4096<room∧n=4096)∨(0<room∧room≤4096∧room=n)∨(room≤0∧n=0)):
 Calls prog 30 #[room] w fun e w'=>e= .returned (some (w.heap.size+1))∧aj w' (w.heap.size+1) w.heap.size (AR.fresh n)∧ae [] w w':=by
 have HF:=aH (yg w n hn);have hmk:=CN n aO;rcases h with⟨h1,rfl⟩|⟨h1,h2,rfl⟩|⟨h1,rfl⟩
 ·have hmk':∀W:World,(Instr.makeSlice 91 (.int .i64 4096) (.int .i64 4096)).run prog W= .ok (.slice (some ⟨W.heap.size,0,none⟩) 4096 4096) (W.alloc (.cells (gw 4096) 158)):=fun W=>hmk W;clear hmk;go_enter func30,ntmps30;go_wp2;go_ret;exact⟨rfl,HF.o,(aF.alloc _).alloc _⟩
 ·go_enter func30,ntmps30;go_wp2;go_ret;exact⟨rfl,HF.o,(aF.alloc _).alloc _⟩
 ·have hmk':∀W:World,(Instr.makeSlice 91 (.int .i64 0) (.int .i64 0)).run prog W= .ok (.slice (some ⟨W.heap.size,0,none⟩) 0 0) (W.alloc (.cells (gw 0) 158)):=fun W=>hmk W;clear hmk;go_enter func30,ntmps30;go_wp2;go_ret;exact⟨rfl,HF.o,(aF.alloc _).alloc _⟩
def nJ (room:Int):Nat:=if 4096<room then 4096 else room.toNat
theorem BU (room:Int) (w:World):Calls prog 30 #[room] w fun e w'=>e= .returned (some (w.heap.size+1))∧
 aj w' (w.heap.size+1) w.heap.size (AR.fresh (nJ room))∧ae [] w w':=
 zt room (nJ room) (by unfold nJ;split<;>omega) w (by unfold nJ;split<;>omega)
theorem AK (w:World) (b i:Nat) (n v:Int) (h:w.cell? (b,i)=some (.int .i64 n)) (hz:w.frozen? ⟨b,i,none⟩=false):
 Calls prog 166 #[.pointer (some ⟨b,i,none⟩),n,v] w fun e w'=>e= .returned true∧w'=w.setCell (b,i) (.int .i64 v):=by
 have hl:=run_call_cas_hit (P:=prog) func167 aK aK aK .i64 aK (y:=v) h hz;go_enter func166,ntmps166;go_wp2;go_ret;exact⟨rfl,rfl⟩
theorem vR (w:World) (b i:Nat) (n o v:Int) (h:w.cell? (b,i)=some (.int .i64 n)) (hz:w.frozen? ⟨b,i,none⟩=false) (hne:¬n=o):
 Calls prog 166 #[.pointer (some ⟨b,i,none⟩),o,v] w fun e w'=>e= .returned false∧w=w':=by
 have hl:=run_call_cas_miss (P:=prog) func167 aK aK aK .i64 aK (o:=o) (y:=v) h hz hne;clear hne;go_enter func166,ntmps166;go_wp2;go_ret;exact⟨rfl,rfl⟩
theorem Eo {w:World} {ab wb:Nat} {A:AR} (h:aj w ab wb A) (i o v:Int) (hi:A.has i=false):
 Calls prog 165 #[some ab,i,o,v] w fun e w'=>e= .returned false∧w=w':=by
 have HW:=aH (kn h i hi);clear h hi;go_enter func165,ntmps165;go_wp2_with fail;refine HW.o.mono ?_;rintro e w' ⟨rfl,rfl⟩;go_wp2;go_ret;exact⟨rfl,rfl⟩
theorem BE {w:World} {ab wb:Nat} {A:AR} (h:aj w ab wb A) (i v:Int) (hi:A.has i=true):
 Calls prog 165 #[some ab,i,(A.get i:Int),v] w fun e w'=>e= .returned true∧aj w' ab wb ((A.note 4 i true).put i v)∧ae [ab,wb] w w':=by
 have HW:=aH (g8 h i hi);have HC:=aH (AK w wb (i.toNat - 1) (A.get i) v (ji h i hi) (h.row.frozen _));have HN:=aH (gJ (h.put i v) 4 i true);clear h hi;go_enter func165,ntmps165;go_wp2_with fail;refine HW.o.mono ?_;rintro e w' ⟨rfl,rfl⟩;go_wp2_with fail;refine HC.o.mono ?_;rintro e w' ⟨rfl,rfl⟩;go_wp2_with fail;refine HN.o.mono ?_;rintro e w1 ⟨rfl,hA,hF⟩;have HA:=aH hA;have HF:=aH hF;clear hA hF;go_wp2;go_ret;exact⟨rfl,HA.o,((ae.refl [ab,wb] w).set _ _ (.inl aS)).trans (HF.o.mono aS)⟩
theorem zj {w:World} {ab wb:Nat} {A:AR} (h:aj w ab wb A) (i o v:Int) (hi:A.has i=true) (hne:¬A.get i=o):
 Calls prog 165 #[some ab,i,o,v] w fun e w'=>e= .returned false∧aj w' ab wb (A.note 4 i false)∧ae [ab,wb] w w':=by
 have HW:=aH (g8 h i hi);have HC:=aH (vR w wb (i.toNat - 1) (A.get i) o v (ji h i hi) (h.row.frozen _) hne);have HN:=aH (gJ h 4 i false);clear h hi hne;go_enter func165,ntmps165;go_wp2_with fail;refine HW.o.mono ?_;rintro e w' ⟨rfl,rfl⟩;go_wp2_with fail;refine HC.o.mono ?_;rintro e w' ⟨rfl,rfl⟩;go_wp2_with fail;refine HN.o.mono ?_;rintro e w1 ⟨rfl,hA,hF⟩;have HA:=aH hA;have HF:=aH hF;clear hA hF;go_wp2;go_ret;exact⟨rfl,HA.o,HF.o.mono aS⟩
theorem ii {w:World} {ab wb:Nat} {A:AR} (h:aj w ab wb A) (i o v:Int):
 Calls prog 165 #[some ab,i,o,v] w fun e w'=>e= .returned (.bool (A.casOk i o))∧aj w' ab wb (A.cas i o v)∧ae [ab,wb] w w':=by
 cases hi:A.has i with
 |true=>
  by_cases he:A.get i=o
  ·subst he;exact(BE h i v hi).mono fun e w' ⟨h1,h2,h3⟩=>⟨by rw[h1];unfold AR.casOk;rw[hi];simp,by unfold AR.cas;rw[hi,if_pos rfl,if_pos rfl];exact h2,h3⟩
  ·exact(zj h i o v hi he).mono fun e w' ⟨h1,h2,h3⟩=>⟨by rw[h1];unfold AR.casOk;rw[hi];simp[he],by unfold AR.cas;rw[hi,if_pos rfl,if_neg he];exact h2,h3⟩
 |false=>
  exact(Eo h i o v hi).mono fun e w' ⟨h1,h2⟩=>by
   subst h2;exact⟨by rw[h1];unfold AR.casOk;rw[hi];rfl,by unfold AR.cas;rw[hi];exact h,aF⟩
def AR.takeE (A:AR) (n:Int):Int:=if n<0 then 1 else if(A.ws.length:Int) - A.taken<n then 3 else 0
def AR.takeN (A:AR) (n:Int):Int:=if A.takeE n=0 then(A.taken:Int)+1 else 0
def AR.take (A:AR) (n:Int):AR:=if A.takeE n=0 then{A with taken:=A.taken+n.toNat} else A
theorem B9 {w:World} {ab wb:Nat} {A:AR} (h:aj w ab wb A) (n:Int) (hn:A.takeE n≠0):
 Calls prog 61 #[some ab,n] w fun e w'=>e= .returned (.tuple #[(0:Int),(A.takeE n:Int)])∧ae [] w w'∧aj w' ab wb A:=by
 have c0:=h.box.cell (i:=0) rfl;have c1:=h.box.cell (i:=1) rfl;have hle:=h.le;have hroom:=h.room;have H:=aH h;clear h;by_cases hneg:n<0
 ·have he:A.takeE n=1:=by unfold AR.takeE;rw[if_pos hneg]
  rw[he];clear hn he;go_enter func61,ntmps61;go_wp2;go_ret2;exact⟨rfl,aF,H.o⟩
 ·have hbig:(A.ws.length:Int) - A.taken<n:=by
   by_cases hb:(A.ws.length:Int) - A.taken<n
   ·exact hb
   ·exact absurd (by unfold AR.takeE;rw[if_neg hneg,if_neg hb]) hn
  have he:A.takeE n=3:=by unfold AR.takeE;rw[if_neg hneg,if_pos hbig]
  rw[he];clear hn he;have d1:decide ((A.ws.length:Int) - A.taken<n)=true:=by simpa using hbig
  go_enter func61,ntmps61;go_wp2
  go_quiet (fail)
  go_wp2;go_ret2;exact⟨rfl,aF.drew _,(H.o.frm ((ae.refl [] _).drew _) aS aS)⟩
theorem Ay {w:World} {ab wb:Nat} {A:AR} (h:aj w ab wb A) (n:Int) (hn:A.takeE n=0):
 Calls prog 61 #[some ab,n] w fun e w'=>e= .returned (.tuple #[((A.taken:Int)+1:Int),(0:Int)])∧ae [ab] w w'∧aj w' ab wb {A with taken:=A.taken+n.toNat}:=by
 have hneg:¬n<0:=by intro hneg;unfold AR.takeE at hn;rw[if_pos hneg] at hn;omega
 have hbig:¬(A.ws.length:Int) - A.taken<n:=by intro hb;unfold AR.takeE at hn;rw[if_neg hneg,if_pos hb] at hn;omega
 clear hn;obtain⟨m,rfl⟩:∃m:Nat,n=m:=⟨n.toNat,by omega⟩
 have d1:decide ((A.ws.length:Int) - A.taken<(m:Int))=false:=by simp;omega
 have c0:=h.box.cell (i:=0) rfl;have c1:=h.box.cell (i:=1) rfl;have z1:=h.box.frozen 1;have hle:=h.le;have hroom:=h.room;have hfin:∀W:World,am W ab [.slice (some ⟨wb,0,none⟩) A.ws.length A.ws.length,((A.taken:Int)+m:Int),A.ops,A.k,A.at_,A.wr] 93→am W wb (A.ws.map (Value.int .i64)) 158→
  aj W ab wb {A with taken:=A.taken+(m:Int).toNat}:=fun W a1 a2=>
  {box:=by simpa using a1,row:=a2,ne:=h.ne,room:=hroom,le:=by simp;omega}
 have H:=aH h;have HF:=aH hfin;clear h hfin;go_enter func61,ntmps61;go_wp2
 go_quiet (fail)
 go_wp2;go_ret2;refine⟨rfl,?_,?_⟩
 ·exact(aF.drew _).set _ _ (.inl aS)
 ·exact HF.o _ ((H.o.box.drew _).set 1 _) ((H.o.row.drew _).other _ _ H.o.ne)
theorem cY {w:World} {ab wb:Nat} {A:AR} (h:aj w ab wb A) (n:Int):
 Calls prog 61 #[some ab,n] w fun e w'=>e= .returned (.tuple #[(A.takeN n:Int),(A.takeE n:Int)])∧aj w' ab wb (A.take n)∧ae [ab,wb] w w':=by
 by_cases hn:A.takeE n=0
 ·exact(Ay h n hn).mono fun e w' ⟨h1,h2,h3⟩=>⟨by rw[h1];unfold AR.takeN;rw[if_pos hn,hn],by unfold AR.take;rw[if_pos hn];exact h3,h2.mono aS⟩
 ·exact(B9 h n hn).mono fun e w' ⟨h1,h2,h3⟩=>⟨by rw[h1];unfold AR.takeN;rw[if_neg hn],by unfold AR.take;rw[if_neg hn];exact h3,h2.mono aS⟩
theorem sP (w:World) (b i:Nat) (n v:Int) (h:w.cell? (b,i)=some (.int .i64 n)) (hz:w.frozen? ⟨b,i,none⟩=false):
 Calls prog 80 #[.pointer (some ⟨b,i,none⟩),v] w fun e w'=>e= .returned (.tuple #[])∧w'=w.setCell (b,i) (.int .i64 v):=by
 have hl:=run_call_store (P:=prog) func101 aK aK aK aK (k:=.i64) (y:=v) h hz;go_enter func80,ntmps80;go_wp2;go_end0;exact⟨rfl,rfl⟩
theorem AM {w:World} {ab wb:Nat} {A:AR} (h:aj w ab wb A) (i v:Int) (hi:A.has i=false):
 Calls prog 63 #[some ab,i,v] w fun e w'=>e= .returned (.tuple #[])∧w=w':=by
 have HW:=aH (kn h i hi);clear h hi;go_enter func63,ntmps63;go_wp2_with fail;refine HW.o.mono ?_;rintro e w' ⟨rfl,rfl⟩;go_wp2;go_end0;exact⟨rfl,rfl⟩
theorem u0 {w:World} {ab wb:Nat} {A:AR} (h:aj w ab wb A) (i v:Int) (hi:A.has i=true):
 Calls prog 63 #[some ab,i,v] w fun e w'=>e= .returned (.tuple #[])∧aj w' ab wb ((A.note 2 i true).put i v)∧ae [ab,wb] w w':=by
 have HW:=aH (g8 h i hi);have HN:=aH (gJ h 2 i true);have HI:=aH (show(A.note 2 i true).has i=true from hi);clear h hi;go_enter func63,ntmps63;go_wp2_with fail;refine HW.o.mono ?_;rintro e w' ⟨rfl,rfl⟩;go_wp2_with fail;refine HN.o.mono ?_;rintro e w1 ⟨rfl,hA,hF⟩;have HA:=aH hA;have HF:=aH hF;clear hA hF;go_wp2_with fail;refine(sP _ _ _ _ _ (ji HA.o i HI.o) (HA.o.row.frozen _)).mono ?_;rintro e w2 ⟨rfl,rfl⟩;go_wp2;go_end0;exact⟨rfl,HA.o.put i _,(HF.o.mono aS).set _ _ (.inl aS)⟩
theorem au {w:World} {ab wb:Nat} {A:AR} (h:aj w ab wb A) (i v:Int):
 Calls prog 63 #[some ab,i,v] w fun e w'=>e= .returned (.tuple #[])∧aj w' ab wb (A.store i v)∧ae [ab,wb] w w':=by
 cases hi:A.has i with
 |true=>exact(u0 h i v hi).mono fun e w' ⟨h1,h2,h3⟩=>⟨h1,by unfold AR.store;rw[hi];exact h2,h3⟩
 |false=>
  exact(AM h i v hi).mono fun e w' ⟨h1,h2⟩=>by
   subst h2;exact⟨h1,by unfold AR.store;rw[hi];exact h,aF⟩
theorem pW (w:World) (b i:Nat) (n:Int) (h:w.cell? (b,i)=some (.int .i64 n)):
 Calls prog 65 #[.pointer (some ⟨b,i,none⟩)] w fun e w'=>e= .returned n∧w=w':=by
 have hl:=run_call_load (P:=prog) func81 aK aK aK .i64 aK h;go_enter func65,ntmps65;go_wp2;go_ret;exact⟨rfl,rfl⟩
theorem BR {w:World} {ab wb:Nat} {A:AR} (h:aj w ab wb A) (i:Int) (hi:A.has i=false):
 Calls prog 106 #[some ab,i] w fun e w'=>e= .returned (0:Int)∧w=w':=by
 have HW:=aH (kn h i hi);clear h hi;go_enter func106,ntmps106;go_wp2_with fail;refine HW.o.mono ?_;rintro e w' ⟨rfl,rfl⟩;go_wp2;go_ret;exact⟨rfl,rfl⟩
theorem Ac {w:World} {ab wb:Nat} {A:AR} (h:aj w ab wb A) (i:Int) (hi:A.has i=true):
 Calls prog 106 #[some ab,i] w fun e w'=>e= .returned (A.get i:Int)∧aj w' ab wb (A.note 1 i false)∧ae [ab,wb] w w':=by
 have HW:=aH (g8 h i hi);have HN:=aH (gJ h 1 i false);have hg:(A.note 1 i false).get i=A.get i:=rfl;have HC:=aH hg;have HI:=aH (show(A.note 1 i false).has i=true from hi);clear h hi hg;go_enter func106,ntmps106;go_wp2_with fail;refine HW.o.mono ?_;rintro e w' ⟨rfl,rfl⟩;go_wp2_with fail;refine HN.o.mono ?_;rintro e w1 ⟨rfl,hA,hF⟩;have HA:=aH hA;have HF:=aH hF;clear hA hF;go_wp2_with fail;refine(pW _ _ _ _ (ji HA.o i HI.o)).mono ?_;rintro e w' ⟨rfl,rfl⟩;go_wp2;go_ret;exact⟨cP HC.o,HA.o,HF.o.mono aS⟩
theorem bq {w:World} {ab wb:Nat} {A:AR} (h:aj w ab wb A) (i:Int):
 Calls prog 106 #[some ab,i] w fun e w'=>e= .returned (A.get i:Int)∧aj w' ab wb (A.load i)∧ae [ab,wb] w w':=by
 cases hi:A.has i with
 |true=>exact(Ac h i hi).mono fun e w' ⟨h1,h2,h3⟩=>⟨h1,by unfold AR.load;rw[hi];exact h2,h3⟩
 |false=>
  exact(BR h i hi).mono fun e w' ⟨h1,h2⟩=>by
   subst h2;exact⟨by rw[h1];unfold AR.get;rw[hi];rfl,by unfold AR.load;rw[hi];exact h,aF⟩
theorem pn {P:Program} {f:FuncId} {fn:Func} (hf:P.funcs[f]? =some fn) (hname:(fn.name== "runtime.NumGoroutine")=false) (hb:fn.body.isNone=true) (hn:Extern.findNext fn=none) (k:IntKind)
 (he:Extern.find fn=some (Extern.Atomic.swapT (.int k))) {a:Addr} {x y:Int} {w:World} (hc:w.cell? a=some (.int k x)) (hz:w.frozen? a=false):
 (callFunc f #[.pointer (some a),.int k y]).run P w= .ok (.value (.int k x)) (w.setCell a (.int k y)):=by
 rw[run_callFunc_extern hf hname hb hn he];change (Sem.run P (asAddr (.pointer (some a)) >>=fun a'=>Extern.Atomic.read (.int k) a' >>=fun old=>store a' (.int k y) .atomic >>=fun _=>pure old) w).andThen _=_;simp[Extern.Atomic.read,asAddr,hc,hz,run_store P w a (.int k y) .atomic rfl,Result.andThen]
theorem wT (w:World) (b i:Nat) (n v:Int) (h:w.cell? (b,i)=some (.int .i64 n)) (hz:w.frozen? ⟨b,i,none⟩=false):
 Calls prog 208 #[.pointer (some ⟨b,i,none⟩),v] w fun e w'=>e= .returned n∧w'=w.setCell (b,i) (.int .i64 v):=by
 have hl:=pn (P:=prog) func209 aK aK aK .i64 aK (y:=v) h hz;go_enter func208,ntmps208;go_wp2;go_ret;exact⟨rfl,rfl⟩
theorem A4 {w:World} {ab wb:Nat} {A:AR} (h:aj w ab wb A) (i v:Int) (hi:A.has i=false):
 Calls prog 207 #[some ab,i,v] w fun e w'=>e= .returned (0:Int)∧w=w':=by
 have HW:=aH (kn h i hi);clear h hi;go_enter func207,ntmps207;go_wp2_with fail;refine HW.o.mono ?_;rintro e w' ⟨rfl,rfl⟩;go_wp2;go_ret;exact⟨rfl,rfl⟩
theorem yv {w:World} {ab wb:Nat} {A:AR} (h:aj w ab wb A) (i v:Int) (hi:A.has i=true):
 Calls prog 207 #[some ab,i,v] w fun e w'=>e= .returned (A.get i:Int)∧aj w' ab wb ((A.note 3 i true).put i v)∧ae [ab,wb] w w':=by
 have HW:=aH (g8 h i hi);have HN:=aH (gJ h 3 i true);have hg:(A.note 3 i true).get i=A.get i:=rfl;have HC:=aH hg;have HI:=aH (show(A.note 3 i true).has i=true from hi);clear h hi hg;go_enter func207,ntmps207;go_wp2_with fail;refine HW.o.mono ?_;rintro e w' ⟨rfl,rfl⟩;go_wp2_with fail;refine HN.o.mono ?_;rintro e w1 ⟨rfl,hA,hF⟩;have HA:=aH hA;have HF:=aH hF;clear hA hF;go_wp2_with fail;refine(wT _ _ _ _ _ (ji HA.o i HI.o) (HA.o.row.frozen _)).mono ?_;rintro e w2 ⟨rfl,rfl⟩;go_wp2;go_ret;exact⟨cP (by rw[HC.o]),HA.o.put i _,(HF.o.mono aS).set _ _ (.inl aS)⟩
theorem eo {w:World} {ab wb:Nat} {A:AR} (h:aj w ab wb A) (i v:Int):
 Calls prog 207 #[some ab,i,v] w fun e w'=>e= .returned (A.get i:Int)∧aj w' ab wb (A.swap i v)∧ae [ab,wb] w w':=by
 cases hi:A.has i with
 |true=>exact(yv h i v hi).mono fun e w' ⟨h1,h2,h3⟩=>⟨h1,by unfold AR.swap;rw[hi];exact h2,h3⟩
 |false=>
  exact(A4 h i v hi).mono fun e w' ⟨h1,h2⟩=>by
   subst h2;exact⟨by rw[h1];unfold AR.get;rw[hi];rfl,by unfold AR.swap;rw[hi];exact h,aF⟩
theorem zL (w:World) (b i:Nat) (n d:Int) (h:w.cell? (b,i)=some (.int .i64 n)) (hz:w.frozen? ⟨b,i,none⟩=false):
 Calls prog 182 #[.pointer (some ⟨b,i,none⟩),d] w fun e w'=>e= .returned (wrap64 (n+d):Int)∧w'=w.setCell (b,i) (.int .i64 (wrap64 (n+d))):=by
 have hl:=run_call_add (P:=prog) func183 aK aK aK .i64 aK (y:=d) (s:=wrap64 (n+d)) h hz (by simp[go_sem,IntWalk.i64_left]);go_enter func182,ntmps182;go_wp2;go_ret;exact⟨rfl,rfl⟩
theorem F7 {w:World} {ab wb:Nat} {A:AR} (h:aj w ab wb A) (i d:Int) (hi:A.has i=false):
 Calls prog 179 #[some ab,i,d] w fun e w'=>e= .returned (0:Int)∧w=w':=by
 have HW:=aH (kn h i hi);clear h hi;go_enter func179,ntmps179;go_wp2_with fail;refine HW.o.mono ?_;rintro e w' ⟨rfl,rfl⟩;go_wp2;go_ret;exact⟨rfl,rfl⟩
theorem C0 {w:World} {ab wb:Nat} {A:AR} (h:aj w ab wb A) (i d:Int) (hi:A.has i=true):
 Calls prog 179 #[some ab,i,d] w fun e w'=>e= .returned (wrap64 (A.get i+d):Int)∧aj w' ab wb ((A.note 5 i true).put i (wrap64 (A.get i+d)))∧ae [ab,wb] w w':=by
 have HW:=aH (g8 h i hi);have HN:=aH (gJ h 5 i true);have hg:(A.note 5 i true).get i=A.get i:=rfl;have HC:=aH hg;have HI:=aH (show(A.note 5 i true).has i=true from hi);clear h hi hg;go_enter func179,ntmps179;go_wp2_with fail;refine HW.o.mono ?_;rintro e w' ⟨rfl,rfl⟩;go_wp2_with fail;refine HN.o.mono ?_;rintro e w1 ⟨rfl,hA,hF⟩;have HA:=aH hA;have HF:=aH hF;clear hA hF;go_wp2_with fail;refine(zL _ _ _ _ _ (ji HA.o i HI.o) (HA.o.row.frozen _)).mono ?_;rintro e w2 ⟨rfl,rfl⟩;go_wp2;go_ret;exact⟨cP (by rw[HC.o]),by rw[HC.o];exact HA.o.put i _,(HF.o.mono aS).set _ _ (.inl aS)⟩
theorem iB {w:World} {ab wb:Nat} {A:AR} (h:aj w ab wb A) (i d:Int):
 Calls prog 179 #[some ab,i,d] w fun e w'=>e= .returned (A.addRes i d:Int)∧aj w' ab wb (A.add i d)∧ae [ab,wb] w w':=by
 cases hi:A.has i with
 |true=>exact(C0 h i d hi).mono fun e w' ⟨h1,h2,h3⟩=>⟨by rw[h1];unfold AR.addRes;rw[hi];rfl,by unfold AR.add;rw[hi];exact h2,h3⟩
 |false=>
  exact(F7 h i d hi).mono fun e w' ⟨h1,h2⟩=>by
   subst h2;exact⟨by rw[h1];unfold AR.addRes;rw[hi];rfl,by unfold AR.add;rw[hi];exact h,aF⟩
theorem cW {x:Int} (h: -9223372036854775808≤x∧x≤9223372036854775807):wrap64 x=x:=by unfold wrap64;omega
def AR.Fit (A:AR):Prop:=A.taken≤A.ws.length∧A.ws.length≤4096∧0≤A.ops∧A.ops≤1000000000
theorem bA {A:AR} {i:Int}:A.has i=true↔1≤i∧i≤(A.taken:Int):=by unfold AR.has;simp
theorem m7 {A:AR} (hf:A.taken≤A.ws.length) {i:Int} (hi:A.has i=true) (v j:Int):(A.put i v).get j=if j=i then v else A.get j:=by
 have h1:=bA.1 hi;by_cases e:j=i
 ·subst e;rw[if_pos rfl];unfold AR.get AR.put;have:AR.has {A with ws:=A.ws.set (j.toNat - 1) v} j=A.has j:=rfl;rw[this,hi,if_pos rfl,List.getElem?_set,if_pos rfl,if_pos aO];rfl
 ·rw[if_neg e];unfold AR.get AR.put;have:AR.has {A with ws:=A.ws.set (i.toNat - 1) v} j=A.has j:=rfl;rw[this];by_cases hj:A.has j=true
  ·have h2:=bA.1 hj;rw[hj,if_pos rfl,if_pos rfl,List.getElem?_set,if_neg aO]
  ·rw[if_neg hj,if_neg hj]
section
variable{A:AR} {i j v o d:Int}
theorem cB:(A.load i).get j=A.get j:=by unfold AR.load;split<;>rfl
theorem ch (hf:A.taken≤A.ws.length) (hi:A.has i=true):(A.store i v).get j=if j=i then v else A.get j:=by
 unfold AR.store;rw[if_pos hi];exact m7 (A:=A.note 2 i true) hf hi v j
theorem kW (hf:A.taken≤A.ws.length) (hi:A.has i=true):(A.swap i v).get j=if j=i then v else A.get j:=by
 unfold AR.swap;rw[if_pos hi];exact m7 (A:=A.note 3 i true) hf hi v j
theorem qH (hf:A.taken≤A.ws.length) (hi:A.has i=true):(A.add i d).get j=if j=i then wrap64 (A.get i+d) else A.get j:=by
 unfold AR.add;rw[if_pos hi];exact m7 (A:=A.note 5 i true) hf hi _ j
theorem ni (hf:A.taken≤A.ws.length) (hi:A.has i=true):(A.cas i o v).get j=if j=i∧A.get i=o then v else A.get j:=by
 unfold AR.cas;rw[if_pos hi];by_cases h:A.get i=o
 ·rw[if_pos h];refine(m7 (A:=A.note 4 i true) hf hi v j).trans ?_;by_cases e:j=i
  ·rw[if_pos e,if_pos ⟨e,h⟩]
  ·rw[if_neg e,if_neg (fun x=>e x.1)];rfl
 ·rw[if_neg h,if_neg (fun x=>h x.2)];rfl
theorem mp (hi:A.has i=true):A.casOk i o=true↔A.get i=o:=by unfold AR.casOk;rw[hi];simp
end
structure jg (b m:Nat) (A B:AR):Prop where
 taken:B.taken=A.taken
 len:B.ws.length=A.ws.length
 out:∀i:Int,(i<b∨(b:Int)+m≤i)→B.get i=A.get i
 ops:B=A∨(B.ops=A.ops+1∧(b:Int)≤B.at_∧B.at_<(b:Int)+m)
section
variable{A B:AR} {b m:Nat} {i v o d:Int}
theorem jg.refl (b m:Nat) (A:AR):jg b m A A:=⟨rfl,rfl,fun _ _=>rfl,.inl rfl⟩
theorem dy (hf:A.Fit):wrap64 (A.ops+1)=A.ops+1:=cW (by have:=hf.2.2;omega)
theorem gc (hf:A.Fit) (hi:A.has i=true) (h1:(b:Int)≤i) (h2:i<(b:Int)+m):jg b m A (A.load i)∧(A.load i).ops=A.ops+1:=by
 have e:A.load i=A.note 1 i false:=by unfold AR.load;rw[if_pos hi]
 rw[e];exact⟨⟨rfl,rfl,fun _ _=>rfl,.inr ⟨dy hf,h1,h2⟩⟩,dy hf⟩
theorem cM (hf:A.Fit) (hi:A.has i=true) (h1:(b:Int)≤i) (h2:i<(b:Int)+m):jg b m A (A.store i v)∧(A.store i v).ops=A.ops+1:=by
 have e:A.store i v=(A.note 2 i true).put i v:=by unfold AR.store;rw[if_pos hi]
 refine⟨⟨by rw[e];rfl,by rw[e];exact List.length_set,fun j hj=>?_,.inr ?_⟩,by rw[e];exact dy hf⟩
 ·rw[ch hf.1 hi,if_neg aO]
 ·rw[e];exact⟨dy hf,h1,h2⟩
theorem qd (hf:A.Fit) (hi:A.has i=true) (h1:(b:Int)≤i) (h2:i<(b:Int)+m):jg b m A (A.swap i v)∧(A.swap i v).ops=A.ops+1:=by
 have e:A.swap i v=(A.note 3 i true).put i v:=by unfold AR.swap;rw[if_pos hi]
 refine⟨⟨by rw[e];rfl,by rw[e];exact List.length_set,fun j hj=>?_,.inr ?_⟩,by rw[e];exact dy hf⟩
 ·rw[kW hf.1 hi,if_neg aO]
 ·rw[e];exact⟨dy hf,h1,h2⟩
theorem zv (hf:A.Fit) (hi:A.has i=true) (h1:(b:Int)≤i) (h2:i<(b:Int)+m):jg b m A (A.add i d)∧(A.add i d).ops=A.ops+1:=by
 have e:A.add i d=(A.note 5 i true).put i (wrap64 (A.get i+d)):=by unfold AR.add;rw[if_pos hi]
 refine⟨⟨by rw[e];rfl,by rw[e];exact List.length_set,fun j hj=>?_,.inr ?_⟩,by rw[e];exact dy hf⟩
 ·rw[qH hf.1 hi,if_neg aO]
 ·rw[e];exact⟨dy hf,h1,h2⟩
theorem tM (hf:A.Fit) (hi:A.has i=true) (h1:(b:Int)≤i) (h2:i<(b:Int)+m):jg b m A (A.cas i o v)∧(A.cas i o v).ops=A.ops+1:=by
 by_cases h:A.get i=o
 ·have e:A.cas i o v=(A.note 4 i true).put i v:=by unfold AR.cas;rw[if_pos hi,if_pos h]
  refine⟨⟨by rw[e];rfl,by rw[e];exact List.length_set,fun j hj=>?_,.inr ?_⟩,by rw[e];exact dy hf⟩
  ·rw[ni hf.1 hi,if_neg aO]
  ·rw[e];exact⟨dy hf,h1,h2⟩
 ·have e:A.cas i o v=A.note 4 i false:=by unfold AR.cas;rw[if_pos hi,if_neg h]
  rw[e];exact⟨⟨rfl,rfl,fun _ _=>rfl,.inr ⟨dy hf,h1,h2⟩⟩,dy hf⟩
theorem jg.le (h:jg b m A B):A.ops≤B.ops∧B.ops≤A.ops+1:=by
 rcases h.ops with e|⟨e,_⟩
 ·rw[e];omega
 ·omega
theorem jg.fit (h:jg b m A B) (hf:A.Fit) (hl:A.ops<1000000000):B.Fit:=by
 have:=h.le;exact⟨by rw[h.taken,h.len];exact hf.1,by rw[h.len];exact hf.2.1,by have:=hf.2.2.1;omega,by omega⟩
end
def eC (nodes:Nat) (k:Int):Bool:=decide (0≤k∧k<(nodes:Int))
def fM (first nodes:Nat) (k:Int):Int:=if eC nodes k then(first:Int)+2*k else 0
def AR.gAdd (A:AR) (first nodes:Nat) (k which:Int):AR:=if eC nodes k then A.add ((first:Int)+2*k+which) 1 else A
def AR.gGet (A:AR) (first nodes:Nat) (k which:Int):Int:=if eC nodes k then A.get ((first:Int)+2*k+which) else 0
def AR.gLoad (A:AR) (first nodes:Nat) (k which:Int):AR:=if eC nodes k then A.load ((first:Int)+2*k+which) else A
structure j6 (w:World) (gb ab:Nat) (first nodes:Nat):Prop where
 box:am w gb [some ab,first,nodes] 268
 first1:1≤first
 first2:first≤5000
 nodes2:nodes≤32
theorem j6.frm {w w':World} {gb ab first nodes:Nat} (h:j6 w gb ab first nodes) {S:List Nat} (hf:ae S w w') (h1:gb∉S):j6 w' gb ab first nodes:=
 {h with box:=h.box.frm hf h1}
theorem tn {w:World} {gb ab first nodes:Nat} (h:j6 w gb ab first nodes):Calls prog 356 #[some gb] w fun e w'=>e= .returned nodes∧w=w':=by
 have c2:=h.box.cell (i:=2) rfl;clear h;go_enter func356,ntmps356;go_wp2;go_ret;exact⟨rfl,rfl⟩
theorem p5 {w:World} {gb ab first nodes:Nat} (h:j6 w gb ab first nodes) (k:Int):Calls prog 353 #[some gb,k] w fun e w'=>e= .returned (fM first nodes k:Int)∧w=w':=by
 have c1:=h.box.cell (i:=1) rfl;have h1:=h.first1;have h2:=h.first2;have h3:=h.nodes2;have HN:=aH (tn h);clear h;by_cases hneg:k<0
 ·have hr:fM first nodes k=0:=by unfold fM eC;rw[if_neg aQ]
  rw[hr];clear hr;go_enter func353,ntmps353;go_wp2;go_ret;exact⟨rfl,rfl⟩
 ·have d1:decide (k<0)=false:=by simp;omega
  by_cases hge:(nodes:Int)≤k
  ·have hr:fM first nodes k=0:=by unfold fM eC;rw[if_neg aQ]
   rw[hr];have d2:decide ((nodes:Int)≤k)=true:=by simpa using hge
   clear hr;go_enter func353,ntmps353;go_wp2_with fail;refine HN.o.mono ?_;rintro e w' ⟨rfl,rfl⟩;go_wp2;go_ret;exact⟨rfl,rfl⟩
  ·have hr:fM first nodes k=(first:Int)+2*k:=by unfold fM eC;rw[if_pos aQ]
   rw[hr];have d2:decide ((nodes:Int)≤k)=false:=by simp;omega
   have hk1:0≤k:=by omega
   have hk2:k≤40:=by omega
   clear hr;go_enter func353,ntmps353;go_wp2_with fail;refine HN.o.mono ?_;rintro e w' ⟨rfl,rfl⟩;go_wp2;go_ret;exact⟨rfl,rfl⟩
theorem rW {w:World} {gb ab wb first nodes:Nat} {A:AR} (h:j6 w gb ab first nodes) (hA:aj w ab wb A) (k which:Int) (hw:which=0∨which=1):
 Calls prog 348 #[some gb,k,which] w fun e w'=>e= .returned (.tuple #[])∧aj w' ab wb (A.gAdd first nodes k which)∧ae [ab,wb] w w':=by
 have c0:=h.box.cell (i:=0) rfl;have h1:=h.first1;have h2:=h.first2;have h3:=h.nodes2;have HW:=aH (p5 h k);cases hk:eC nodes k with
 |true=>
  have hk':0≤k∧k<(nodes:Int):=by unfold eC at hk;simpa using hk
  obtain⟨k1,k2⟩:=hk';have hr:fM first nodes k=(first:Int)+2*k:=by unfold fM;rw[hk];rfl
  have hg:A.gAdd first nodes k which=A.add ((first:Int)+2*k+which) 1:=by unfold AR.gAdd;rw[hk];rfl
  rw[hg];rw[hr] at HW;have HAdd:=aH (iB hA ((first:Int)+2*k+which) 1);clear h hA hk hr hg;have w1:0≤which:=by omega
  have w2:which≤1:=by omega
  clear hw;go_enter func348,ntmps348;go_wp2_with fail;refine HW.o.mono ?_;rintro e w' ⟨rfl,rfl⟩;go_wp2_with fail;refine HAdd.o.mono ?_;rintro e w' ⟨rfl,hA',hF⟩;have HA:=aH hA';have HF:=aH hF;clear hA' hF;go_wp2;go_end0;exact⟨rfl,HA.o,HF.o⟩
 |false=>
  have hr:fM first nodes k=0:=by unfold fM;rw[hk];rfl
  have hg:A.gAdd first nodes k which=A:=by unfold AR.gAdd;rw[hk];rfl
  rw[hg];rw[hr] at HW;have HA:=aH hA;clear h hA hk hr hg hw;go_enter func348,ntmps348;go_wp2_with fail;refine HW.o.mono ?_;rintro e w' ⟨rfl,rfl⟩;go_wp2;go_end0;exact⟨rfl,HA.o,aF⟩
theorem pY {w:World} {gb ab wb first nodes:Nat} {A:AR} (h:j6 w gb ab first nodes) (hA:aj w ab wb A) (k which:Int) (hw:which=0∨which=1):
 Calls prog 357 #[some gb,k,which] w fun e w'=>e= .returned (A.gGet first nodes k which:Int)∧aj w' ab wb (A.gLoad first nodes k which)∧ae [ab,wb] w w':=by
 have c0:=h.box.cell (i:=0) rfl;have h1:=h.first1;have h2:=h.first2;have h3:=h.nodes2;have HW:=aH (p5 h k);cases hk:eC nodes k with
 |true=>
  have hk':0≤k∧k<(nodes:Int):=by unfold eC at hk;simpa using hk
  obtain⟨k1,k2⟩:=hk';have hr:fM first nodes k=(first:Int)+2*k:=by unfold fM;rw[hk];rfl
  have hg:A.gLoad first nodes k which=A.load ((first:Int)+2*k+which):=by unfold AR.gLoad;rw[hk];rfl
  have hg':A.gGet first nodes k which=A.get ((first:Int)+2*k+which):=by unfold AR.gGet;rw[hk];rfl
  rw[hg,hg'];rw[hr] at HW;have HL:=aH (bq hA ((first:Int)+2*k+which));have d0:((first:Int)+2*k==0)=false:=by simp;omega
  clear h hA hk hr hg hg';have w1:0≤which:=by omega
  have w2:which≤1:=by omega
  clear hw;go_enter func357,ntmps357;go_wp2_with fail;refine HW.o.mono ?_;rintro e w' ⟨rfl,rfl⟩;go_wp2_with fail;refine HL.o.mono ?_;rintro e w' ⟨rfl,hA',hF⟩;have HA:=aH hA';have HF:=aH hF;clear hA' hF;go_wp2;go_ret;exact⟨rfl,HA.o,HF.o⟩
 |false=>
  have hr:fM first nodes k=0:=by unfold fM;rw[hk];rfl
  have hg:A.gLoad first nodes k which=A:=by unfold AR.gLoad;rw[hk];rfl
  have hg':A.gGet first nodes k which=0:=by unfold AR.gGet;rw[hk];rfl
  rw[hg,hg'];rw[hr] at HW;have HA:=aH hA;clear h hA hk hr hg hg' hw;go_enter func357,ntmps357;go_wp2_with fail;refine HW.o.mono ?_;rintro e w' ⟨rfl,rfl⟩;go_wp2;go_ret;exact⟨rfl,HA.o,aF⟩
def AR.gNewE (A:AR) (nodes:Int):Int:=if nodes<1∨32<nodes then 1 else A.takeE (2*nodes)
theorem A7 {w:World} {ab wb:Nat} {A:AR} (h:aj w ab wb A) (nodes:Int) (he:A.gNewE nodes=0):
 Calls prog 107 #[some ab,nodes] w fun e w'=>∃gb,e= .returned (.tuple #[some gb,(0:Int)])∧w.heap.size≤gb∧
  j6 w' gb ab (A.taken+1) nodes.toNat∧aj w' ab wb (A.take (2*nodes))∧ae [ab,wb] w w':=by
 have h12:¬(nodes<1∨32<nodes):=by intro hc;unfold AR.gNewE at he;rw[if_pos hc] at he;omega
 have hr:A.takeE (2*nodes)=0:=by unfold AR.gNewE at he;rwa [if_neg h12] at he
 have h1:¬nodes<1:=by omega
 have h2:¬32<nodes:=by omega
 have d1:decide (nodes<1)=false:=by simp;omega
 have d2:decide (32<nodes)=false:=by simp;omega
 have hn:A.takeN (2*nodes)=(A.taken:Int)+1:=by unfold AR.takeN;rw[if_pos hr]
 have hT:=cY h (2*nodes);rw[hr,hn] at hT;have HT:=aH hT;have hle:=h.le;have hroom:=h.room;have hab:=h.box.lt;have hwb:=h.row.lt;clear h he hr hT hn h12;go_enter func107,ntmps107;go_wp2_with fail;refine HT.o.mono ?_;rintro e w1 ⟨rfl,hA',hF⟩;have hsz:=hF.size;have HF:=aH hF;have HA:=aH hA';clear hA' hF;go_wp2;go_ret2;refine⟨w1.heap.size,rfl,hsz,?_,?_,HF.o.alloc _⟩
 ·have hnew:=am.new w1 #[some ab,((A.taken:Int)+1:Int),nodes] 268;refine{box:=?_,first1:=by omega,first2:=by omega,nodes2:=by omega};have e1:((nodes.toNat:Nat):Int)=nodes:=by omega
  rw[e1];simpa using hnew
 ·exact{HA.o with box:=HA.o.box.alloc _,row:=HA.o.row.alloc _}
theorem sK {w:World} {gb ab wb first nodes:Nat} {A:AR} (h:j6 w gb ab first nodes) (hA:aj w ab wb A) (k:Int):
 Calls prog 344 #[some gb,k] w fun e w'=>e= .returned (.tuple #[])∧aj w' ab wb (A.gAdd first nodes k 0)∧ae [ab,wb] w w':=by
 have HX:=aH (rW h hA k 0 aO);clear h hA;go_enter func344,ntmps344;go_wp2_with fail;refine HX.o.mono ?_;rintro e w' ⟨rfl,hA',hF⟩;have HA:=aH hA';have HF:=aH hF;clear hA' hF;go_wp2;go_end0;exact⟨rfl,HA.o,HF.o⟩
theorem xi {w:World} {gb ab wb first nodes:Nat} {A:AR} (h:j6 w gb ab first nodes) (hA:aj w ab wb A) (k:Int):
 Calls prog 345 #[some gb,k] w fun e w'=>e= .returned (.tuple #[])∧aj w' ab wb (A.gAdd first nodes k 1)∧ae [ab,wb] w w':=by
 have HX:=aH (rW h hA k 1 aO);clear h hA;go_enter func345,ntmps345;go_wp2_with fail;refine HX.o.mono ?_;rintro e w' ⟨rfl,hA',hF⟩;have HA:=aH hA';have HF:=aH hF;clear hA' hF;go_wp2;go_end0;exact⟨rfl,HA.o,HF.o⟩
theorem BO {w:World} {gb ab wb first nodes:Nat} {A:AR} (h:j6 w gb ab first nodes) (hA:aj w ab wb A) (k:Int):
 Calls prog 355 #[some gb,k] w fun e w'=>e= .returned (A.gGet first nodes k 0:Int)∧aj w' ab wb (A.gLoad first nodes k 0)∧ae [ab,wb] w w':=by
 have HX:=aH (pY h hA k 0 aO);clear h hA;go_enter func355,ntmps355;go_wp2_with fail;refine HX.o.mono ?_;rintro e w' ⟨rfl,hA',hF⟩;have HA:=aH hA';have HF:=aH hF;clear hA' hF;go_wp2;go_ret;exact⟨rfl,HA.o,HF.o⟩
theorem xy {w:World} {gb ab wb first nodes:Nat} {A:AR} (h:j6 w gb ab first nodes) (hA:aj w ab wb A) (k:Int):
 Calls prog 354 #[some gb,k] w fun e w'=>e= .returned (A.gGet first nodes k 1:Int)∧aj w' ab wb (A.gLoad first nodes k 1)∧ae [ab,wb] w w':=by
 have HX:=aH (pY h hA k 1 aO);clear h hA;go_enter func354,ntmps354;go_wp2_with fail;refine HX.o.mono ?_;rintro e w' ⟨rfl,hA',hF⟩;have HA:=aH hA';have HF:=aH hF;clear hA' hF;go_wp2;go_ret;exact⟨rfl,HA.o,HF.o⟩
end Go.Proofs.YteijjhahgabalaaGreat
