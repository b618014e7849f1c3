/- The contract of arena's Words. -/
import Derived.Maps.AppendAt
import Derived.Test.YteijjhahgabalaaGreatWA06
import Derived.Test.YteijjhahgabalaaGreatWA07
set_option maxRecDepth 100000
set_option maxHeartbeats 8000000
set_option linter.all false
namespace Go.Proofs.YteijjhahgabalaaGreat
open Go.RowKit
open Tryz
def AR.words (A:AR):List Int:=A.ws.take A.taken
theorem wO {w:World} {ab wb:Nat} {A:AR} (h:aj w ab wb A):
 Calls prog 54 #[some ab] w fun e w'=>∃v,e= .returned v∧ju w' w.heap.size v A.words∧ae [] w w':=by
 obtain⟨i0,hi,hz0,hz1,hz2⟩:=info_parts iY;have HL:=aH (tA h);have hle:=h.le;have hroom:=h.room;have hab:=h.box.lt;have hwb:=h.row.lt;have H:=aH h;have HI:=aH (And.intro hi (And.intro hz0 (And.intro hz1 hz2)));clear h hi hz0 hz1 hz2;go_enter func54,ntmps54;go_wp2_with fail;refine HL.o.mono ?_;rintro e w' ⟨rfl,rfl⟩;go_wp2_with fail;go_loopw[3,7] (fun vv i wr=>∃(k:Nat) (v:Value),v=vv∧i= .int .i64 k∧k≤A.taken∧ju wr w.heap.size v (A.ws.take k)∧ae [] w wr)
  (fun _ i _=>A.taken - (intOf i).toNat)
 case atStart=>exact⟨0,_,rfl,rfl,Nat.zero_le _,ju.nil _ _,aF⟩
 case round=>
  obtain⟨k,v,rfl,rfl,hk,hO,hF⟩:=hrel;have hA:=H.o.frm hF aS aS;have hsz:=hF.size;by_cases hlt:k<A.taken
  ·have hkl:k<A.ws.length:=by omega
   have c0:=hA.box.cell (i:=0) rfl;have l1:(k:Int)<A.ws.length:=by omega
   have cx:wr.cell? (wb,k)=some (.int .i64 (A.ws[k]?.getD 0)):=hA.row.cell (by rw[List.getElem?_map,List.getElem?_eq_getElem hkl];rfl);have hnx:A.ws.take (k+1)=A.ws.take k++[A.ws[k]?.getD 0]:=by
    rw[List.take_succ_eq_append_getElem hkl];simp[hkl]
   have hlen:(A.ws.take k).length=k:=by simp;omega
   have HX:=aH cx;have HN:=aH hnx;have HB:=aH (lA hO);have HO:=aH hO;have HF:=aH hF;have HLN:=aH hlen;clear hnx cx hA hO hF hlen;generalize hy:A.ws[k]?.getD 0=y at HX HN;clear hy;go_wp2_with fail;refine(pW _ _ _ _ HX.o).mono ?_;rintro e w' ⟨rfl,rfl⟩;have HOW:=aH (HO.o.at HLN.o);go_wp2_with(at_builtin;refine wpList_append_own _ rfl _ _ 22 rfl w.heap.size 3 i0 (.int .i64 0) 1 8 underlying22 HI.o.1 HI.o.2.1 HI.o.2.2.1 HI.o.2.2.2 rfl aJ _ _ _ rfl (HOW.o.alloc _) ⟨wr.heap.size,0,none⟩ 1 1 [y] rfl rfl ?c1 ?c2 ?c3 ?c4 ?c5 ?_)
   case c1=>exact cell_one_new _ _ _
   case c2=>simp[Value.oneCell']
   case c3=>unfold maxLen;omega
   case c4=>omega
   case c5=>simp;omega
   intro v' w1 hown' hgrow _;rw[←List.map_take] at hown';obtain⟨g1,g2⟩:=oG HLN.o hown' hgrow HB.o HF.o (Nat.le_refl _);rw[←HN.o] at g1;have G1:=aH g1;have G2:=aH g2;clear g1 g2 hown' hgrow HX HN HOW HO HF HB c0;go_wp2;go_roundw
   case rel=>exact⟨k+1,_,rfl,by go_num,by omega,G1.o,G2.o⟩
   case measure=>simp[intOf];omega
  ·have hke:k=A.taken:=by omega
   have HK:=aH hke;have HO:=aH hO;have HF:=aH hF;clear hke hA hO hF;go_wp2;go_ret;exact⟨_,rfl,by unfold AR.words;rw[←HK.o];exact HO.o,HF.o⟩
end Go.Proofs.YteijjhahgabalaaGreat
