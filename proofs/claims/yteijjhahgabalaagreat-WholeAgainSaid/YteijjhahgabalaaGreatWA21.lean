/- The contracts of package drain. (Printed by gen_drain_e.py.) -/
import Derived.Deep.RegionWith
import Derived.Deep.DeepCutAuto
import Derived.Deep.CutBlock
import Derived.Test.YteijjhahgabalaaGreatWA06
set_option maxRecDepth 100000
set_option maxHeartbeats 8000000
set_option linter.all false
namespace Go.Proofs.YteijjhahgabalaaGreat
open Go.RowKit
open Tryz
structure DR where
 at_:Int
 to_:Int
 once:Bool
 busy:Bool
 second:Bool
 out:Int
 clear:Bool
def ee (w:World) (db:Nat) (gp:Option Addr) (D:DR):Prop:=
 am w db [.pointer gp,D.at_,D.to_,D.once,D.busy,D.second,D.out,D.clear] 270
theorem ee.frm {w w':World} {db:Nat} {gp:Option Addr} {D:DR} (h:ee w db gp D) {S:List Nat} (hf:ae S w w') (h1:db∉S):ee w' db gp D:=am.frm h hf h1
def DR.zero:DR:=⟨0,0,false,false,false,0,false⟩
def DR.over (D:DR) (c:Bool):DR:={D with busy:=false,clear:=c}
def DR.begins (D:DR) (a b:Int) (once:Bool):DR:=if b≤a then DR.over {D with at_:=a,to_:=b,once:=once,second:=false} true else{D with at_:=a,to_:=b,once:=once,second:=false,busy:=true,clear:=false}
def DR.first (D:DR) (v:Int):DR:={D with out:=v,second:=true}
def DR.last (D:DR) (v:Int):DR:=
 if v=D.out then(if wrap64 (D.at_+1)=D.to_ then DR.over {D with second:=false,at_:=wrap64 (D.at_+1)} true else{D with second:=false,at_:=wrap64 (D.at_+1)})
 else if D.once then DR.over {D with second:=false} false else{D with second:=false}
def DR.lastR (D:DR) (v:Int):Bool:=if v=D.out then decide (wrap64 (D.at_+1)=D.to_) else D.once
section
variable{w:World} {db:Nat} {gp:Option Addr} {D:DR}
theorem yB (gp:Option Addr) (w:World):Calls prog 108 #[.pointer gp] w fun e w'=>e= .returned (some w.heap.size)∧ee w' w.heap.size gp DR.zero∧ae [] w w':=by
 go_enter func108,ntmps108;go_wp2;go_ret;exact⟨rfl,am.new w _ _,aF.alloc _⟩
theorem lS (h:ee w db gp D) (c:Bool):Calls prog 349 #[some db,c] w fun e w'=>e= .returned true∧ee w' db gp (D.over c)∧ae [db] w w':=by
 have hfz:=am.frozen h;have c4:=am.cell h (i:=4) rfl;have c7:=am.cell h (i:=7) rfl;have hs:=(am.set h 4 (.bool false)).set 7 (.bool c);have HS:=aH hs;clear h hs;go_enter func349,ntmps349;go_wp2;go_ret;exact⟨rfl,HS.o,(aF.set ⟨db,4,none⟩ _ (.inl aS)).set ⟨db,7,none⟩ _ (.inl aS)⟩
theorem lU (h:ee w db gp D):Calls prog 350 #[some db] w fun e w'=>e= .returned D.busy∧w=w':=by
 have c4:=am.cell h (i:=4) rfl;clear h;go_enter func350,ntmps350;go_wp2;go_ret;exact⟨rfl,rfl⟩
theorem sC (h:ee w db gp D):Calls prog 368 #[some db] w fun e w'=>e= .returned D.clear∧w=w':=by
 have c7:=am.cell h (i:=7) rfl;clear h;go_enter func368,ntmps368;go_wp2;go_ret;exact⟨rfl,rfl⟩
theorem tD (h:ee w db gp D) (a b:Int) (once:Bool):Calls prog 346 #[some db,a,b,once] w fun e w'=>e= .returned (.bool (decide (b≤a)))∧ee w' db gp (D.begins a b once)∧ae [db] w w':=by
 have hfz:=am.frozen h;have c1:=am.cell h (i:=1) rfl;have c2:=am.cell h (i:=2) rfl;have c3:=am.cell h (i:=3) rfl;have c4:=am.cell h (i:=4) rfl;have c5:=am.cell h (i:=5) rfl;have c7:=am.cell h (i:=7) rfl;have hs:=(((am.set h 1 (.int .i64 a)).set 2 (.int .i64 b)).set 3 (.bool once)).set 5 (.bool false);have hf:ae [db] w _:=((((ae.refl _ w).set ⟨db,1,none⟩ (.int .i64 a) (.inl aS)).set ⟨db,2,none⟩ (.int .i64 b) (.inl aS)).set ⟨db,3,none⟩ (.bool once) (.inl aS)).set ⟨db,5,none⟩ (.bool false) (.inl aS);have H:Hy (ee _ db gp {D with at_:=a,to_:=b,once:=once,second:=false}):=aH hs;have HF:=aH hf;clear h hs hf;by_cases hle:b≤a
 ·have e1:D.begins a b once=DR.over {D with at_:=a,to_:=b,once:=once,second:=false} true:=by unfold DR.begins;rw[if_pos hle]
  rw[e1,decide_eq_true hle];have d1:decide (b≤a)=true:=by simpa using hle
  clear e1 hle;go_enter func346,ntmps346;go_wp2_with fail;refine(lS H.o true).mono ?_;rintro e w' ⟨rfl,hD,hF⟩;have HD:=aH hD;have HF2:=aH (HF.o.trans hF);clear hD hF;go_wp2;go_ret;exact⟨rfl,HD.o,HF2.o⟩
 ·have e1:D.begins a b once={D with at_:=a,to_:=b,once:=once,second:=false,busy:=true,clear:=false}:=by unfold DR.begins;rw[if_neg hle]
  rw[e1,decide_eq_false hle];have d1:decide (b≤a)=false:=by simpa using hle
  clear e1 hle;have hs2:=(am.set H.o 4 (.bool true)).set 7 (.bool false);have hf2:=(HF.o.set ⟨db,4,none⟩ (.bool true) (.inl aS)).set ⟨db,7,none⟩ (.bool false) (.inl aS);have HS:=aH hs2;have HF2:=aH hf2;clear hs2 hf2;go_enter func346,ntmps346;go_wp2;go_ret;exact⟨rfl,HS.o,HF2.o⟩
def pw (F:FuncId) (gp:Option Addr) (at_ v:Int) (db:Nat) (S:List Nat) (R:World→Prop) (w:World):Prop:=
 ∀wx,ae [db] w wx→Calls prog F #[.pointer gp,at_] wx fun e w'=>e= .returned v∧R w'∧ae S wx w'
theorem tu {S:List Nat} {R:World→Prop} {v:Int} (h:ee w db gp D) (hO:pw 354 gp D.at_ v db S R w) (hS:db∉S) (hR:∀w1 w2,ae [db] w1 w2→R w1→R w2):
 Calls prog 351 #[some db] w fun e w'=>e= .returned false∧ee w' db gp (D.first v)∧R w'∧ae (db::S) w w':=by
 have hkk:∀wx,ae S w wx→wx.cell? (db,0)=some (.pointer gp)∧wx.cell? (db,1)=some (.int .i64 D.at_)∧wx.cell? (db,6)=some (.int .i64 D.out)∧wx.frozen? ⟨db,6,none⟩=false:=fun wx hf=>⟨am.cell (h.frm hf hS) (i:=0) rfl,am.cell (h.frm hf hS) (i:=1) rfl,am.cell (h.frm hf hS) (i:=6) rfl,am.frozen (h.frm hf hS) 6⟩
 have KK:=aH hkk;have HO:=aH hO;have H:=aH h;have HRR:=aH hR;have HS:=aH hS;clear hkk hO hR h hS;go_enter func351,ntmps351;go_wp2_with fail
 go_cut[] (fun wx=>ee wx db gp {D with out:=v}∧R wx∧ae (db::S) w wx)
 case first=>
  have c0:=(KK.o w aF).1;have c1:=(KK.o w aF).2.1;go_region_with(go_at_call 354;refine(HO.o _ aD).mono ?_;rintro e w1 ⟨rfl,hRw,hF⟩;have HF1:=aH (ae.trans (S:=S) (a:=w) aD hF);have HR1:=aH hRw;have k6:=(KK.o _ HF1.o).2.2.1;have kz:=(KK.o _ HF1.o).2.2.2;clear hRw hF)
  all_goals
   go_wp2_with fail
   go_meet
   have hD1:=H.o.frm HF1.o HS.o;have hf1:ae [db] w1 (w1.setCell (db,6) (.int .i64 v)):=aF.set ⟨db,6,none⟩ _ (.inl aS);exact⟨am.set hD1 6 (.int .i64 v),HRR.o _ _ hf1 HR1.o,(HF1.o.mono (by simp;intro x hx;exact .inr hx)).trans (hf1.mono aS)⟩
 case rest=>
  obtain⟨hD,hRw,hF⟩:=hcut;have c5:=am.cell hD (i:=5) rfl;have hfz:=am.frozen hD;have hs:=am.set hD 5 (.bool true);have hf2:ae [db] wc (wc.setCell (db,5) (.bool true)):=aF.set ⟨db,5,none⟩ _ (.inl aS);have HS2:=aH hs;have HR2:=aH (HRR.o _ _ hf2 hRw);have HF2:=aH (hF.trans (hf2.mono aS));clear hD hRw hF hs hf2;go_wp2;go_ret;exact⟨rfl,HS2.o,HR2.o,HF2.o⟩
theorem wM {S:List Nat} {R:World→Prop} {v:Int} (h:ee w db gp D) (hO:pw 355 gp D.at_ v db S R w) (hS:db∉S) (hR:∀w1 w2,ae [db] w1 w2→R w1→R w2):
 Calls prog 352 #[some db] w fun e w'=>e= .returned (.bool (D.lastR v))∧ee w' db gp (D.last v)∧R w'∧ae (db::S) w w':=by
 have c5:=am.cell h (i:=5) rfl;have hfz:=am.frozen h;have hs:ee (w.setCell (db,5) (.bool false)) db gp {D with second:=false}:=am.set h 5 (.bool false);have hf0:ae [db] w (w.setCell (db,5) (.bool false)):=aF.set ⟨db,5,none⟩ _ (.inl aS);have H:=aH hs;have HF0:=aH hf0;have HO:=aH hO;have HRR:=aH hR;have HS:=aH hS;clear hO hR h hS hs hf0;go_enter func352,ntmps352;go_wp2_with fail;generalize w.setCell (db,5) (.bool false)=w0 at*;have k0:=am.cell H.o (i:=0) rfl;have k1:=am.cell H.o (i:=1) rfl;clear c5 hfz
 go_cut[3] (fun s3 wx=>s3= .int .i64 v∧R wx∧ae S w0 wx)
 case first=>
  go_region_with(go_at_call 355;refine(HO.o _ (by repeat (first|exact HF0.o|apply ae.drew1|apply ae.drew))).mono ?_;rintro e w1 ⟨rfl,hRw,hF⟩;have HF1:=aH (ae.trans (S:=S) (a:=w0) aD hF);have HR1:=aH hRw;clear hRw hF)
  all_goals
   go_wp2_with fail
   go_meet
   exact⟨rfl,HR1.o,HF1.o⟩
 case rest=>
  obtain⟨rfl,hRw,hF⟩:=hcut;have hD:=H.o.frm hF HS.o;have HD:=aH hD;have HR1:=aH hRw;have HF1:=aH ((HF0.o.mono (S':=db::S) aS).trans (hF.mono (by simp;intro x hx;exact .inr hx)));have c3:=am.cell hD (i:=3) rfl;have c6:=am.cell hD (i:=6) rfl;have c1:=am.cell hD (i:=1) rfl;have c2:=am.cell hD (i:=2) rfl;have hfz:=am.frozen hD;simp only at c1 c2 c3 c6;clear hRw hF hD k0 k1 H HO HF0;by_cases hv:v=D.out
  ·have d1:(v !=D.out)=false:=by simpa using hv
   have e1:D.last v=if wrap64 (D.at_+1)=D.to_ then DR.over {D with second:=false,at_:=wrap64 (D.at_+1)} true else{D with second:=false,at_:=wrap64 (D.at_+1)}:=by unfold DR.last;rw[if_pos hv]
   have e2:D.lastR v=decide (wrap64 (D.at_+1)=D.to_):=by unfold DR.lastR;rw[if_pos hv]
   have E1:=aH e1;have E2:=aH e2;clear e1 e2 hv
   go_upto_region 8 with fail
   have hD2:ee (wc.setCell (db,1) (.int .i64 (wrap64 (D.at_+1)))) db gp {D with second:=false,at_:=wrap64 (D.at_+1)}:=am.set HD.o 1 (.int .i64 (wrap64 (D.at_+1)));have hf2:ae [db] wc (wc.setCell (db,1) (.int .i64 (wrap64 (D.at_+1)))):=aF.set ⟨db,1,none⟩ _ (.inl aS);have HR2:=aH (HRR.o _ _ hf2 HR1.o);have HF2:=aH (HF1.o.trans (hf2.mono (S':=db::S) aS));generalize wc.setCell (db,1) (.int .i64 (wrap64 (D.at_+1)))=w5 at*;have HD2:=aH hD2;have k1:=am.cell hD2 (i:=1) rfl;have k2:=am.cell hD2 (i:=2) rfl;simp only at k1 k2;clear hD2 hf2 c1 c2 c3 c6 hfz HD HR1 HF1;generalize wrap64 (D.at_+1)=a1 at*;cases ht:decide (a1=D.to_) with
   |true=>
    have d2:(a1==D.to_)=true:=by simpa using ht
    have HT:=aH (of_decide_eq_true ht);clear ht
    go_cut[2] (fun s2 wx=>s2= .bool true∧ee wx db gp (DR.over {D with second:=false,at_:=a1} true)∧R wx∧ae (db::S) w wx)
    case first=>
     go_region_with(go_at_call 349;refine(lS (HD2.o.frm (S:=[]) aD aS) true).mono ?_;rintro e w6 ⟨rfl,hD6,hF6⟩;have HD6:=aH hD6;have HF6:=aH (ae.trans (S:=[db]) (a:=w5) aD hF6);clear hD6 hF6)
     all_goals
      go_wp2_with fail
      go_meet
      exact⟨rfl,HD6.o,HRR.o _ _ HF6.o HR2.o,HF2.o.trans (HF6.o.mono aS)⟩
    case rest=>
     obtain⟨rfl,hD,hRw,hF⟩:=hcut;have HD7:=aH (And.intro hD (And.intro hRw hF));clear hD hRw hF;go_wp2;go_ret;exact⟨by rw[E2.o,HT.o];simp,by rw[E1.o,if_pos HT.o];exact HD7.o.1,HD7.o.2.1,HD7.o.2.2⟩
   |false=>
    have d2:(a1==D.to_)=false:=by simpa using ht
    have HT:=aH (of_decide_eq_false ht);clear ht
    go_quiet (fail)
    go_wp2;go_ret;have hf9:ae [db] w5 (w5.drewN nq):=aF.drew _;exact⟨by rw[E2.o,decide_eq_false HT.o];rfl,by rw[E1.o,if_neg HT.o];exact HD2.o.frm (S:=[]) (aF.drew _) aS,HRR.o _ _ hf9 HR2.o,HF2.o.trans (hf9.mono aS)⟩
  ·have d1:(v !=D.out)=true:=by simpa using hv
   cases ho:D.once with
   |true=>
    have e1:D.last v=DR.over {D with second:=false} false:=by unfold DR.last;rw[if_neg hv,ho];rfl
    have e2:D.lastR v=true:=by unfold DR.lastR;rw[if_neg hv,ho]
    have E1:=aH e1;have E2:=aH e2;rw[ho] at c3;clear e1 e2 hv ho;go_wp2_with fail;refine(lS HD.o false).mono ?_;rintro e w' ⟨rfl,hD,hF⟩;have HR2:=aH (HRR.o _ _ hF HR1.o);have HD2:=aH hD;have HF2:=aH (HF1.o.trans (hF.mono aS));clear hD hF;go_wp2;go_ret;exact⟨by rw[E2.o];rfl,by rw[E1.o];exact HD2.o,HR2.o,HF2.o⟩
   |false=>
    have e1:D.last v={D with second:=false}:=by unfold DR.last;rw[if_neg hv,ho];rfl
    have e2:D.lastR v=false:=by unfold DR.lastR;rw[if_neg hv,ho]
    have E1:=aH e1;have E2:=aH e2;rw[ho] at c3;clear e1 e2 hv ho;go_wp2;go_ret;exact⟨by rw[E2.o];rfl,by rw[E1.o];exact HD.o,HR1.o,HF1.o⟩
theorem tI (h:ee w db gp D) (hb:D.busy=false):Calls prog 347 #[some db] w fun e w'=>e= .returned false∧w=w':=by
 have hB:=lU h;rw[hb] at hB;have HB:=aH hB;clear h hb hB;go_enter func347,ntmps347;go_wp2_with fail;refine HB.o.mono ?_;rintro e w' ⟨rfl,rfl⟩;go_wp2;go_ret;exact⟨rfl,rfl⟩
theorem q8 {S:List Nat} {R:World→Prop} {v:Int} (h:ee w db gp D) (hb:D.busy=true) (hs:D.second=false) (hO:pw 354 gp D.at_ v db S R w) (hS:db∉S) (hR:∀w1 w2,ae [db] w1 w2→R w1→R w2):
 Calls prog 347 #[some db] w fun e w'=>e= .returned false∧ee w' db gp (D.first v)∧R w'∧ae (db::S) w w':=by
 have hB:=lU h;rw[hb] at hB;have HB:=aH hB;have c5:=am.cell h (i:=5) rfl;rw[hs] at c5;have HF:=aH (tu h hO hS hR);have hmf:= @aY prog;clear h hb hB hs hO hS hR;go_enter func347,ntmps347;go_wp2_with fail;refine HB.o.mono ?_;rintro e w' ⟨rfl,rfl⟩;go_wp2_with(go_at_call 351;refine HF.o.mono ?_;rintro e w' ⟨rfl,hD,hRw,hF⟩;have HD:=aH (And.intro hD (And.intro hRw hF));clear hD hRw hF)
 go_ret;exact⟨rfl,HD.o⟩
theorem sU {S:List Nat} {R:World→Prop} {v:Int} (h:ee w db gp D) (hb:D.busy=true) (hs:D.second=true) (hO:pw 355 gp D.at_ v db S R w) (hS:db∉S) (hR:∀w1 w2,ae [db] w1 w2→R w1→R w2):
 Calls prog 347 #[some db] w fun e w'=>e= .returned (.bool (D.lastR v))∧ee w' db gp (D.last v)∧R w'∧ae (db::S) w w':=by
 have hB:=lU h;rw[hb] at hB;have HB:=aH hB;have c5:=am.cell h (i:=5) rfl;rw[hs] at c5;have HF:=aH (wM h hO hS hR);have hmf:= @aY prog;clear h hb hB hs hO hS hR;go_enter func347,ntmps347;go_wp2_with fail;refine HB.o.mono ?_;rintro e w' ⟨rfl,rfl⟩;go_wp2_with(go_at_call 352;refine HF.o.mono ?_;rintro e w' ⟨rfl,hD,hRw,hF⟩;have HD:=aH (And.intro hD (And.intro hRw hF));clear hD hRw hF)
 go_ret;exact⟨rfl,HD.o⟩
end
def DR.step (D:DR) (vo vi:Int):DR:=if D.busy then(if D.second then D.last vi else D.first vo) else D
def DR.stepR (D:DR) (vi:Int):Bool:=D.busy&&D.second&&D.lastR vi
def AR.dStep (A:AR) (first nodes:Nat) (D:DR):AR:=if D.busy then A.gLoad first nodes D.at_ (if D.second then 0 else 1) else A
theorem wh {w:World} {db gb ab wb first nodes:Nat} {D:DR} {A:AR} (h:ee w db (some ⟨gb,0,none⟩) D) (hG:j6 w gb ab first nodes) (hA:aj w ab wb A) (hne:db≠gb∧db≠ab∧db≠wb∧gb≠ab∧gb≠wb):
 Calls prog 347 #[some db] w fun e w'=>e= .returned (.bool (D.stepR (A.gGet first nodes D.at_ 0)))∧
  ee w' db (some ⟨gb,0,none⟩) (D.step (A.gGet first nodes D.at_ 1) (A.gGet first nodes D.at_ 0))∧aj w' ab wb (A.dStep first nodes D)∧j6 w' gb ab first nodes∧ae [db,ab,wb] w w':=by
 obtain⟨n1,n2,n3,n4,n5⟩:=hne;cases hb:D.busy with
 |false=>
  refine(tI h hb).mono fun e w' ⟨h1,h2⟩=>?_;subst h1 h2;refine⟨by unfold DR.stepR;rw[hb];rfl,by unfold DR.step;rw[hb];exact h,by unfold AR.dStep;rw[hb];exact hA,hG,aF⟩
 |true=>
  cases hs:D.second with
  |false=>
   have ht:pw 354 (some ⟨gb,0,none⟩) D.at_ (A.gGet first nodes D.at_ 1) db [ab,wb] (fun w'=>aj w' ab wb (A.gLoad first nodes D.at_ 1)) w:=fun wx hf=>xy (hG.frm hf aQ) (hA.frm hf aQ aQ) D.at_;refine(q8 h hb hs ht aQ (fun w1 w2 hf hA=>hA.frm hf aQ aQ)).mono fun e w' ⟨h1,h2,h3,h4⟩=>?_;subst h1;refine⟨by unfold DR.stepR;rw[hs];simp,by unfold DR.step;rw[hb,hs];exact h2,by unfold AR.dStep;rw[hb,hs];exact h3,hG.frm h4 aQ,h4⟩
  |true=>
   have ht:pw 355 (some ⟨gb,0,none⟩) D.at_ (A.gGet first nodes D.at_ 0) db [ab,wb] (fun w'=>aj w' ab wb (A.gLoad first nodes D.at_ 0)) w:=fun wx hf=>BO (hG.frm hf aQ) (hA.frm hf aQ aQ) D.at_;refine(sU h hb hs ht aQ (fun w1 w2 hf hA=>hA.frm hf aQ aQ)).mono fun e w' ⟨h1,h2,h3,h4⟩=>?_;subst h1;refine⟨by unfold DR.stepR;rw[hb,hs];rfl,by unfold DR.step;rw[hb,hs];exact h2,by unfold AR.dStep;rw[hb,hs];exact h3,hG.frm h4 aQ,h4⟩
end Go.Proofs.YteijjhahgabalaaGreat
