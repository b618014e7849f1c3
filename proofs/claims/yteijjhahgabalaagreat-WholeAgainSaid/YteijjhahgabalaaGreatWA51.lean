/- locks.make of a cna lock: kind 9. -/
import Derived.Test.YteijjhahgabalaaGreatWA50
import Derived.Test.YteijjhahgabalaaGreatWA49
set_option maxRecDepth 100000
set_option maxHeartbeats 8000000
set_option linter.all false
namespace Go.Proofs.YteijjhahgabalaaGreat
open Go.RowKit
open Tryz
theorem A1.lk {w w':World} {B:BH} {M:B6} {X:An} {lk:Nat} {vs:List Value} (h:A1 w B M X) (hl:am w lk vs 119) (hf:ae [lk] w w'):A1 w' B M X:=by
 have q:∀{b:Nat} {vs:List Value} {U:TypeId},am w b vs U→U≠119→b∉[lk]:=fun h hu hm=>by
  have:=h.differ hl hu;simp at hm;omega
 obtain⟨cap,hb⟩:=h.box;obtain⟨v,hv⟩:=h.nds;have hv0:=hv;obtain⟨_,_,_,hc,_⟩:=hv;have hsc:=h.sc;exact{box:=⟨cap,hb.frm hf (q hb aJ)⟩,nds:=⟨v,hv0.frm hf (q hc aJ)⟩,sc:={box:=hsc.box.frm hf (q hsc.box aJ),row:=hsc.row.frm hf (q hsc.row aJ),h1:=hsc.h1.frm hf (q hsc.h1 aJ),h2:=hsc.h2.frm hf (q hsc.h2 aJ),h3:=hsc.h3.frm hf (q hsc.h3 aJ),n32:=hsc.n32},row:=h.row.frm hf (q h.row aJ),ar:=h.ar.frm hf (q h.ar.box aJ) (q h.ar.row aJ),n32:=h.n32,tl:=h.tl}
abbrev vx (P T:List Int) (bud:Int):B6:=yh P T (AR.fresh 4096) bud
abbrev zG (T:List Int):An:=zr T (AR.fresh 4096)
theorem fy (P T:List Int) (A:AR) (bud:Int):(yh P T A bud).n=T.length:=by show(fG P T).length=_;unfold fG;rw[List.length_map]
theorem se {P T:List Int} {g l par bud:Int} (hT:du P T) (hb:0≤bud∧bud≤1000):fN P T 9 g l par bud (fs (vx P T bud)) (zG T) where
 n:=fy _ _ _ _
 kd13:=by omega
 sh:=rfl
 mks:=fun w ab wb lk x y hx hy hA hL _ _=>by
  have n1:lk≠ab:=hL.differ hA.box aJ;have n2:lk≠wb:=hL.differ hA.row aJ;have hsz:=hT.size;have HF0:=aH (((ae.refl [] w).alloc (.cells #[x,y] 24)).alloc (.cells #[g,l,par,bud] 42));have HN:=aH (fz (hx.frm HF0.o aS) (hy.frm HF0.o aS) hT (hA.frm HF0.o aS aS) (by show 0+_≤(List.replicate 4096 (0:Int)).length;rw[List.length_replicate];have:=hsz.2.2.2;omega) (by show 0≤3000;omega) hb);have hB1:=(am.new w #[x,y] 24).alloc (.cells #[g,l,par,bud] 42);have hB2:=am.new (w.alloc (.cells #[x,y] 24)) #[g,l,par,bud] 42;rw[World.size_alloc] at hB2;have HL:=aH (hL.frm HF0.o aS);have c0:=HL.o.cell (i:=0) rfl;have t0:=hB1.cell (i:=0) rfl;have t1:=hB1.cell (i:=1) rfl;have t3:=hB2.cell (i:=3) rfl;have HT32:=aH (show(vx P T bud).n≤32 from by rw[fy];exact hT.size.2.2.2);have hls:=HF0.o.size;obtain⟨a1,cap1,rfl, -, -⟩:=hx;obtain⟨a2,cap2,rfl, -, -⟩:=hy;clear hA hL hB1 hB2 hsz;go_enter func57,ntmps57;go_wp2_with fail;refine HN.o.mono ?_;rintro e w1 ⟨B,rfl,⟨hb1,hb2,hb3,hb4⟩,hC,hF⟩;have hL1:=HL.o.frm hF aQ;have l0:=hL1.cell (i:=2) rfl;have lz:=hL1.frozen;have HL1:=aH hL1;have HF:=aH ((HF0.o.mono (S':=[ab,wb]) aS).trans hF);have HBB:=aH (And.intro hb1 (And.intro hb2 (And.intro (Nat.le_trans hls hb3) (Nat.le_trans hls hb4))));have HST:=aH (show∀v,A1 (w1.setCell (lk,2) v) B (vx P T bud) (zG T) from fun v=>hC.lk hL1 aU);clear hF hC hL1 hb1 hb2 hb3 hb4;go_wp2;go_ret;refine⟨(Ix (vx P T bud) B).alone 9,(fp HT32.o).alone_ok 9 aO (fun s i=>rfl),⟨HBB.o.1,rfl⟩,rfl,⟨by rw[show(fs (vx P T bud)).n=T.length from fy _ _ _ _];exact HL1.o.set 2 _,HST.o _⟩,fun z hz=>?_,(HF.o.mono (S':=[ab,wb,lk]) aS).set _ _ (.inl aS)⟩;obtain⟨e1,e2,e3,e4⟩:=HBB.o;have hz':z=B.sc.kb∨z=B.sb∨z=B.ab∨z=B.wb:=by simpa[iH.alone,Ix,Aq] using hz
  rcases hz' with e|e|e|e
  ·rw[e];exact .inr (.inr e3)
  ·rw[e];exact .inr (.inr e4)
  ·rw[e];exact .inl e1
  ·rw[e];exact .inr (.inl e2)
theorem oQ {P T:List Int} {g l par bud:Int} (hT:du P T) (hb:0≤bud∧bud≤1000):fR P T (.agg #[(9:Int),g,l,par,bud]) (fs (vx P T bud)) (zG T) where
 ok:=yw _
 i0:=fun _ _=>.inl (by show(0:Int)≤0∧(0:Int)≤6;omega)
 mks:=fun _ _ _ hx hy=>ey hx hy hT (se hT hb)
end Go.Proofs.YteijjhahgabalaaGreat
