/- The contracts of tas: a step that tries, and one that frees. -/
import Derived.Test.YteijjhahgabalaaGreatWA13
set_option maxRecDepth 100000
set_option maxHeartbeats 8000000
set_option linter.all false
namespace Go.Proofs.YteijjhahgabalaaGreat
open Go.RowKit
open Tryz
section
variable{w:World} {lb ab wb sb word n:Nat} {most:Int} {S:Nat→Nat→Int} {A:AR}
theorem tN (h:dO w lb ab sb word n most S) (hA:aj w ab wb A) (hne:lb≠ab∧lb≠wb∧sb≠ab∧sb≠wb) {j:Nat} (hj:j<n) (hq:S j 0=11):Calls prog 163 #[some lb,j] w fun e w'=>e= .returned true∧
 dO w' lb ab sb word n most (ac S j 0 0)∧aj w' ab wb (A.store word 0)∧ae [sb,ab,wb] w w':=by
 obtain⟨n1,n2,n3,n4⟩:=hne;have HS:=aH (eK h hj);have c0:=h.pc0 hj;rw[hq] at c0;have b0:=h.box.cell (i:=0) rfl;have b1:=h.box.cell (i:=1) rfl;have H:=aH h;have HSt:=aH (fun k=>au (hA.frm (S:=[]) ((ae.refl _ w).drew k) aS aS) word 0);clear h hA hq;go_enter func163,ntmps163;go_wp2_with fail;refine HS.o.mono ?_;rintro e w' ⟨rfl,rfl⟩;go_wp2_with fail;refine cU 8 aK aK ?_;simp only[List.take_succ_cons,List.take_zero,List.drop_succ_cons,List.drop_zero];repeat (quiet_step (fail))
 refine wpQuiet_nil ?_;rintro _ ⟨nq,rfl⟩;go_wp2_with fail;refine(HSt.o nq).mono ?_;rintro e w1 ⟨rfl,hA,hF⟩;have hF1:=((ae.refl [ab,wb] w).drew nq).trans hF;have hL:=H.o.frm hF1 aQ aQ;have k0:=hL.pc0 hj;have hfz:=hL.row.frozen;have HP:=aH (hL.put0 j 0);have hf2:ae [sb] w1 (w1.setCell (sb,4*j) (.int .i64 0)):=aF.set ⟨sb,4*j,none⟩ _ (.inl aS);have HA:=aH (hA.frm hf2 aQ aQ);have HF:=aH ((hF1.mono (S':=[sb,ab,wb]) aS).trans (hf2.mono aS));clear hA hF hF1 hL hf2 c0 b0 b1;go_wp2;go_ret;exact⟨rfl,HP.o,HA.o,HF.o⟩
theorem xj (h:dO w lb ab sb word n most S) (hA:aj w ab wb A) (hne:lb≠ab∧lb≠wb∧sb≠ab∧sb≠wb) {j:Nat} (hj:j<n) (hq:S j 0=1):Calls prog 163 #[some lb,j] w fun e w'=>e= .returned (.bool (A.casOk word 0))∧
 dO w' lb ab sb word n most (if A.casOk word 0 then ac S j 0 10 else ac (ac (ac S j 0 2) j 2 (S j 1)) j 1 (ed most (S j 1)))∧aj w' ab wb (A.cas word 0 ((j:Int)+1))∧ae [sb,ab,wb] w w':=by
 obtain⟨n1,n2,n3,n4⟩:=hne;have hn:=h.n32;have HS:=aH (eK h hj);have c0:=h.pc0 hj;rw[hq] at c0;have b0:=h.box.cell (i:=0) rfl;have b1:=h.box.cell (i:=1) rfl;have H:=aH h;have HC:=aH (fun k=>ii (hA.frm (S:=[]) ((ae.refl _ w).drew k) aS aS) word 0 ((j:Int)+1));have HQ:=aH hq;clear h hA hq;go_enter func163,ntmps163;go_wp2_with fail;refine HS.o.mono ?_;rintro e w' ⟨rfl,rfl⟩;go_wp2_with fail;refine cU 10 aK aK ?_;simp only[List.take_succ_cons,List.take_zero,List.drop_succ_cons,List.drop_zero];repeat (quiet_step (fail))
 refine wpQuiet_nil ?_;rintro _ ⟨nq,rfl⟩;go_wp2_with fail;refine(HC.o nq).mono ?_;rintro e w1 ⟨rfl,hA,hF⟩;have hF1:=((ae.refl [ab,wb] w).drew nq).trans hF;have hL:=H.o.frm hF1 aQ aQ;have k0:=hL.pc0 hj;have hfz:=hL.row.frozen;have HA:=aH hA;have HF1:=aH (hF1.mono (S':=[sb,ab,wb]) aS);have HL:=aH hL;clear hA hF hF1 hL c0 b0 b1;cases hok:A.casOk word 0 with
 |true=>
  have HP:=aH (HL.o.put0 j 10);have hf2:ae [sb] w1 (w1.setCell (sb,4*j) (.int .i64 10)):=aF.set ⟨sb,4*j,none⟩ _ (.inl aS);have HA2:=aH (HA.o.frm hf2 aQ aQ);have HF:=aH (HF1.o.trans (hf2.mono aS));clear hf2;go_wp2;go_ret;exact⟨rfl,by simpa using HP.o,HA2.o,HF.o⟩
 |false=>
  have hP:=((HL.o.put0 j 2).put j (t:=2) aO (S j 1)).put j (t:=1) aO (ed most (S j 1));have hf2:ae [sb] w1 _:=(((ae.refl [sb] w1).set ⟨sb,4*j,none⟩ (.int .i64 2) (.inl aS)).set ⟨sb,4*j+2,none⟩ (.int .i64 (S j 1)) (.inl aS)).set ⟨sb,4*j+1,none⟩ (.int .i64 (ed most (S j 1))) (.inl aS);have HP:=aH hP;have HA2:=aH (HA.o.frm hf2 aQ aQ);have HF:=aH (HF1.o.trans (hf2.mono aS));have k1:=HL.o.pc hj 1 aO;have k2:=HL.o.pc hj 2 aO;have b2:=HL.o.box.cell (i:=2) rfl;clear hP hf2;have HLo:=aH (rfl:ed most (S j 1)=if wrap64 (2*S j 1)≤most then wrap64 (2*S j 1) else most)
  go_upto_region 9 with fail
  by_cases hmin:wrap64 (2*S j 1)≤most
  ·have hlo:ed most (S j 1)=wrap64 (2*S j 1):=by unfold ed;rw[if_pos hmin]
   rw[hlo] at HP HA2 HF;have hm2:IntKind.i64.wrap (2*S j 1)≤most:=by rw[IntWalk.i64_left];exact hmin
   have HLO:=aH hlo;have HQ3:=aH (And.intro HP.o (And.intro HA2.o HF.o));clear HLo HP HA2 HF HA HF1 HL H HC HQ HS hlo;go_region_with fail;all_goals
    go_wp2;all_goals
     go_ret;refine⟨rfl,?_⟩
     (try rw[HLO.o])
     (try simp only[IntWalk.i64_left])
     first
      |exact HQ3.o
      |exact⟨HQ3.o.1.frm (Z:=[]) (aF.drew1) aS aS,HQ3.o.2.1.frm (S:=[]) (aF.drew1) aS aS,HQ3.o.2.2.drew1⟩
  ·have hlo:ed most (S j 1)=most:=by unfold ed;rw[if_neg hmin]
   rw[hlo] at HP HA2 HF;have hm2:¬IntKind.i64.wrap (2*S j 1)≤most:=by rw[IntWalk.i64_left];exact hmin
   have hm3:most<IntKind.i64.wrap (2*S j 1):=by rw[IntWalk.i64_left];omega
   have HLO:=aH hlo;have HQ3:=aH (And.intro HP.o (And.intro HA2.o HF.o));clear HLo HP HA2 HF HA HF1 HL H HC HQ HS hlo;go_region_with fail;all_goals
    go_wp2;all_goals
     go_ret;refine⟨rfl,?_⟩
     (try rw[HLO.o])
     (try simp only[IntWalk.i64_left])
     first
      |exact HQ3.o
      |exact⟨HQ3.o.1.frm (Z:=[]) (aF.drew1) aS aS,HQ3.o.2.1.frm (S:=[]) (aF.drew1) aS aS,HQ3.o.2.2.drew1⟩
end
end Go.Proofs.YteijjhahgabalaaGreat
